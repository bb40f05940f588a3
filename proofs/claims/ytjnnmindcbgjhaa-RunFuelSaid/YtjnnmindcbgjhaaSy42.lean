/- A function that defers, in its caller's memory. No conditions but those in each statement. -/
import Derived.Test.YtjnnmindcbgjhaaSy38
import Derived.Test.YtjnnmindcbgjhaaRm2
set_option linter.unusedVariables false
set_option linter.unusedSimpArgs false
set_option maxRecDepth 20000
set_option maxHeartbeats 4000000
namespace Go.Sy
open Go Go.RowKit
section
variable {P:Program} {X:Ctx} {w0:World} {n:Nat}
theorem Xe {s:St} {a:Act} {w:World} (h:Holds X w0 n s a w) {t:Nat} (ht:lkp s.e t=none) (sl:List (Nat×Nat)) (hs:∀p∈sl,lkp s.e p.1=some (true,.one (.p p.2 0 0))∧p.1≠t) (ns:List Nat) (hn:∀k∈ns,(lkp s.h k).isSome=true) (pn:Option (List (Nat×List C×List (List C)))) :
  ∃I:Nm,a.tmps.size=n∧(∀p∈X.F,I p.1=p.2)∧(∀p∈sl,a.tmps[p.1]?=some ((I p.2).p 0 0))∧∀(F:Value) (df:List Deferred),Holds ⟨X.M,X.Z,ns.map fun k=>(k,I k),pn,df,[]⟩ w0 n s { (a.put (some t) F) with defers:=df } w:=by
 obtain⟨hW,I,lab,fz,hA⟩:=h
 have hput:∀(F:Value) (j:Nat),j≠t→(a.put (some t) F).tmps[j]?=a.tmps[j]?:=by
  intro F j hj
  simp only[Act.put]
  rw[Array.getElem?_setIfInBounds,if_neg (Ne.symm hj)]
 refine⟨I,hA.n,fun p hp=>(hA.m.fix p hp).2,fun p hp=>?_,fun F df=>⟨hW,I,lab,fz,by rw[← hA.n];exact QE a (some t) F,⟨rfl,fun p hp=>by cases hp⟩,fun j g v hj=>?_,⟨hA.m.h,hA.m.wf,hA.m.own,hA.m.fzl,hA.m.fzo,hA.m.kept,fun p hp=>?_⟩⟩⟩
 ·obtain⟨h1,h2⟩:=hs p hp
  obtain⟨x,hx,hd⟩:=hA.e p.1 true _ h1
  simp only[if_true]at hd
  rw[hx,A2X hd]
 ·have hjt:j≠t:=by rintro rfl;rw[ht]at hj;cases hj
  obtain⟨x,hx,hd⟩:=hA.e j g v hj
  exact⟨x,by show (a.put (some t) F).tmps[j]?=_;rw[hput F _ hjt];exact hx,hd⟩
 ·obtain⟨k,hk,rfl⟩:=List.mem_map.1 hp
  exact⟨hn k hk,rfl⟩
theorem eT {f:FuncId} {fn:Func} {c:Code} (hf:P.funcs[f]?=some fn) (hb:fn.body=some c) (mem:List MV) (w:World) (M:Nat→Prop) (I:Nm) (lab:Lab) (fz:Nat→Prop) (args:List SV) (mem':List (Option MV)) (R:SV) (xs:List Value)
  (hA:AtW (mX M fz I mem.length) w I lab fz (lkp (Ew 0 mem)) w) (hlen:xs.length=args.length) (hx:∀(j:Nat) (v:SV) (x:Value),args[j]?=some v→xs[j]?=some x→Ae (hp w) fz lab I (lkp (Ew 0 mem)) v x)
  (hnm:∀v∈args,∀k∈v.names,k<mem.length) (hn:args.length≤fn.ntmps)
  (h:Sg (P:=P) (mX M fz I mem.length) w fn.ntmps c ⟨I6 0 args,Ew 0 mem⟩ (bodyPostD P fn (Kf w M fz I mem.length mem' R))):Calls P f xs.toArray w (Kf w M fz I mem.length mem' R):=by
 refine calls_of_wp_defers hf hb (h _ w ⟨?_,I,lab,fz,?_,⟨rfl,fun p hp=>by cases hp⟩,?_,hA⟩)
 ·intro t g v ht _ k hk
  rw[Ft]at ht
  simp only[Nat.zero_le,if_true,Nat.sub_zero,Option.map_eq_some_iff,jP]at ht
  obtain⟨u,hu,rfl,rfl⟩:=ht
  have:=hnm u (List.mem_of_getElem? hu) k hk
  show (lkp (Ew 0 mem) k).isSome=true
  rw[Ew,GW]
  simp[this]
 ·simp[hlen];omega
 ·intro t g v ht
  rw[Ft]at ht
  simp only[Nat.zero_le,if_true,Nat.sub_zero,Option.map_eq_some_iff,jP]at ht
  obtain⟨u,hu,rfl,rfl⟩:=ht
  have hlt:t<args.length:=(List.getElem?_eq_some_iff.1 hu).1
  have hlt2:t<xs.length:=by omega
  refine⟨xs[t],?_,?_⟩
  ·rw[Array.getElem?_append_left (by simpa using hlt2)]
   simp[hlt2]
  ·simp only[if_true]
   exact hx t u _ hu (List.getElem?_eq_getElem hlt2)
theorem Ze {X':Ctx} {w:World} {I:Nm} {lab:Lab} {fz:Nat→Prop} {H:Hp} (hM:X'.M=X.M) (hZ:X'.Z=X.Z) (hF:∀p∈X'.F,p∈X.F) (h:AtW X w0 I lab fz H w):AtW X' w0 I lab fz H w:=
 ⟨h.h,h.wf,by rw[hM];exact h.own,h.fzl,by rw[hM,hZ];exact h.fzo,by rw[hM];exact h.kept,fun p hp=>h.fix p (hF p hp)⟩
theorem py {M fz0:Nat→Prop} {I0:Nm} {m:Nat} {s:St} {a:Act} {w:World} {fn:Func} {R:SV} {mem':List (Option MV)} (hM:M=X.M) (hZ:fz0=X.Z) (hF:∀p∈memF I0 0 m,p∈X.F) (hl:m≤mem'.length) (h:MC P X fn.results.toList (jn R mem') s) (hs:Holds X w0 n s a w) :
  ∃x,(results fn a.tmps).run P w= .ok x w∧Kf w0 M fz0 I0 m mem' R (.returned x) w:=by
 obtain⟨cs,s',vs,h1,h2,h3,h4,h5,h6⟩:=h
 obtain⟨_,I',lab',fz',hA'⟩:=FW h1 a w hs
 obtain⟨x,x1,x2⟩:=JJ hA' h2 h3
 rw[h4]at x2
 refine⟨x,x1,x,I',lab',fz',rfl,PZ (Ze (X:=X) (X':=mX M fz0 I0 m) hM hZ hF hA'.m) h6 (fun p hp'=>?_),Mp h5 x2⟩
 obtain⟨q1,q2,_⟩:=HV hp'
 exact O5 _ _ _ q1 (by omega)
theorem iu {ops:Array Oper} (sp:List (Spec P X w0)) {j0:Nat} {l:List Oper} {st:St} {Q:St→Prop} {Qd:Exit→Act→World→Prop} {a:Act} {w:World} (hP:∀ch a w,Ga X a→Js X w0 ch w→Qd (.panic ch) a w) (hQ:∀s' a w,Q s'→Holds X w0 n s' a w→Qd .normal a w)
  (hl:∀j,l[j]?=ops[j0+j]?) (hv:JI sp n ops l st [] Wg Q) (hs:Holds X w0 n st a w):wpOps P ops Qd (List.range' j0 l.length) a w:=by
 obtain⟨hW,I,lab,fz,hA⟩:=hs
 obtain⟨xs,fs,s',h1,_,h2,h3,h4⟩:=O4 sp n ops _ _ _ _ _ hv
 refine Sz hP l j0 _ _ xs fs a w I lab fz hl h1 hW hA fun a' w' I' lab' fz' hW' hA'=>?_
 have e1:CT xs 0 (fun _=>true) (lkp st.e)=JS xs (lkp st.e):=rfl
 have e2:C8 xs 0 (fun _=>true) (lkp st.h)=JT xs (lkp st.h):=rfl
 rw[e1,e2,← h3,← h4]at hW' hA'
 exact hQ s' a' w' (h2 (fun t p ht=>hA'.m.h t _ ht)) ⟨hW',I',lab',fz',hA'⟩
end
end Go.Sy
namespace Go.Proofs.Ytjnnmindcbgjhaa
open Go Go.Sy Go.RowKit
abbrev NU (p:Pg×Ms) (fn:List UInt8) (al:Int) (kd:Int):Prop:=True
abbrev FE (p:Pg×Ms) (fn:List UInt8) (al:Int) (kd:Int):Bool:=true
abbrev NW (p:Pg×Ms) (fn:List UInt8) (al:Int) (kd:Int):SV:=.tup []
abbrev Dv (p:Pg×Ms) (fn:List UInt8) (al:Int) (kd:Int):MV:=mcW p.1 (p.2.brk fn al kd)
noncomputable abbrev LU:ArgM ((Pg×Ms)×(List UInt8)×(Int)×(Int)×Unit):=(amP (mMc) (amD (cStr) (amD (cInt .i64) (amD (cInt .i64) am0))))
abbrev iv:Prop:=Ok Try.prog 51 ((LU).args 0) (LU).mem (fun p:(Pg×Ms)×(List UInt8)×(Int)×(Int)×Unit=>NU p.1 p.2.1 p.2.2.1 p.2.2.2.1) (fun p:(Pg×Ms)×(List UInt8)×(Int)×(Int)×Unit=>FE p.1 p.2.1 p.2.2.1 p.2.2.2.1) (fun p:(Pg×Ms)×(List UInt8)×(Int)×(Int)×Unit=>NW p.1 p.2.1 p.2.2.1 p.2.2.2.1) (fun p:(Pg×Ms)×(List UInt8)×(Int)×(Int)×Unit=>[some (Dv p.1 p.2.1 p.2.2.1 p.2.2.2.1)])
theorem iw:∀p,(fun p:(Pg×Ms)×(List UInt8)×(Int)×(Int)×Unit=>NU p.1 p.2.1 p.2.2.1 p.2.2.2.1) p→((fun p:(Pg×Ms)×(List UInt8)×(Int)×(Int)×Unit=>[some (Dv p.1 p.2.1 p.2.2.1 p.2.2.2.1)]) p).length=((LU).mem p).length:=by intro p _;rfl
theorem iy:∀p,(fun p:(Pg×Ms)×(List UInt8)×(Int)×(Int)×Unit=>NU p.1 p.2.1 p.2.2.1 p.2.2.2.1) p→As ((fun p:(Pg×Ms)×(List UInt8)×(Int)×(Int)×Unit=>[some (Dv p.1 p.2.1 p.2.2.1 p.2.2.2.1)]) p).length ((fun p:(Pg×Ms)×(List UInt8)×(Int)×(Int)×Unit=>NW p.1 p.2.1 p.2.2.1 p.2.2.2.1) p)=true:=by intro p _;first|rfl|exact AO _ _|exact AP _ _|(simp[As,Bz,AO,AP];done)
theorem Xf:∀p,(fun p:(Pg×Ms)×(List UInt8)×(Int)×(Int)×Unit=>NU p.1 p.2.1 p.2.2.1 p.2.2.2.1) p→∀q,some q∈(fun p:(Pg×Ms)×(List UInt8)×(Int)×(Int)×Unit=>[some (Dv p.1 p.2.1 p.2.2.1 p.2.2.2.1)]) p→∀r∈q.2,∀c∈r,c.names=[]:=by intro p _;exact P5 _ _
attribute [local go_sem] Ms.brk Ms.exh Ms.spd Fj HF HG mcC mcW Fk Eb FJ FI FM
theorem pz:iv:=by
 rintro ⟨p,fn,al,kd,_u⟩ w M I lab fz xs hc hA hl hx
 refine MF Try.func51 rfl _ w M I lab fz (FE p fn al kd) (Dv p fn al kd) [] [] ((LU).args 0 ⟨p,fn,al,kd,_u⟩) (NW p fn al kd) xs hA hl hx (fun v hv k hk=>Nat.lt_of_lt_of_eq ((LU).an 0 ⟨p,fn,al,kd,_u⟩ v hv k hk).2 (Nat.zero_add _)) (jN rfl) (Xf ⟨p,fn,al,kd,_u⟩ hc _ (List.mem_singleton.2 rfl)) ?_
 clear hx hl hA xs
 simp only[Try.f51]
 obtain⟨P,m⟩:=p
 simp only[↓eB,seval,go_sem,FE,Dv]
 try simp only[A2,A3]
 repeat' first|exact ck|with_reducible apply And.intro|intro _
 all_goals first|exact trivial|(rename_i h;first|exact oI h|exact nah h)|(rename_i _ h _ g;exact sL h g)|decide|omega|(refine A0 [] ?_;simp only[↓eB,seval,go_sem,bne,NW,FE,Dv,L0])
noncomputable def HM {X:Ctx} {w0:World}:Sy.Spec Try.prog X w0:=Ol 51 Try.call51 (LU) (fun p:(Pg×Ms)×(List UInt8)×(Int)×(Int)×Unit=>NU p.1 p.2.1 p.2.2.1 p.2.2.2.1) (fun p:(Pg×Ms)×(List UInt8)×(Int)×(Int)×Unit=>FE p.1 p.2.1 p.2.2.1 p.2.2.2.1) (fun p:(Pg×Ms)×(List UInt8)×(Int)×(Int)×Unit=>NW p.1 p.2.1 p.2.2.1 p.2.2.2.1) (fun p:(Pg×Ms)×(List UInt8)×(Int)×(Int)×Unit=>[some (Dv p.1 p.2.1 p.2.2.1 p.2.2.2.1)]) iw iy Xf pz
abbrev PM (p:Pg×Ms):Prop:=True
abbrev EA (p:Pg×Ms):Bool:=true
abbrev PN (p:Pg×Ms):SV:=.tup []
abbrev DI (p:Pg×Ms):MV:=mcW p.1 p.2.exh
noncomputable abbrev Md:ArgM ((Pg×Ms)×Unit):=(amP (mMc) am0)
abbrev qA:Prop:=Ok Try.prog 71 ((Md).args 0) (Md).mem (fun p:(Pg×Ms)×Unit=>PM p.1) (fun p:(Pg×Ms)×Unit=>EA p.1) (fun p:(Pg×Ms)×Unit=>PN p.1) (fun p:(Pg×Ms)×Unit=>[some (DI p.1)])
theorem qB:∀p,(fun p:(Pg×Ms)×Unit=>PM p.1) p→((fun p:(Pg×Ms)×Unit=>[some (DI p.1)]) p).length=((Md).mem p).length:=by intro p _;rfl
theorem qC:∀p,(fun p:(Pg×Ms)×Unit=>PM p.1) p→As ((fun p:(Pg×Ms)×Unit=>[some (DI p.1)]) p).length ((fun p:(Pg×Ms)×Unit=>PN p.1) p)=true:=by intro p _;first|rfl|exact AO _ _|exact AP _ _|(simp[As,Bz,AO,AP];done)
theorem Zf:∀p,(fun p:(Pg×Ms)×Unit=>PM p.1) p→∀q,some q∈(fun p:(Pg×Ms)×Unit=>[some (DI p.1)]) p→∀r∈q.2,∀c∈r,c.names=[]:=by intro p _;exact P5 _ _
theorem wk:qA:=by
 rintro ⟨p,_u⟩ w M I lab fz xs hc hA hl hx
 refine MF Try.func71 rfl _ w M I lab fz (EA p) (DI p) [] [] ((Md).args 0 ⟨p,_u⟩) (PN p) xs hA hl hx (fun v hv k hk=>Nat.lt_of_lt_of_eq ((Md).an 0 ⟨p,_u⟩ v hv k hk).2 (Nat.zero_add _)) (jN rfl) (Zf ⟨p,_u⟩ hc _ (List.mem_singleton.2 rfl)) ?_
 clear hx hl hA xs
 simp only[Try.f71]
 obtain⟨P,m⟩:=p
 simp only[↓eB,seval,go_sem,EA,DI]
 try simp only[A2,A3]
 repeat' first|exact ck|with_reducible apply And.intro|intro _
 all_goals first|exact trivial|(rename_i h;first|exact oI h|exact nah h)|(rename_i _ h _ g;exact sL h g)|decide|omega|(refine A0 [] ?_;simp only[↓eB,seval,go_sem,bne,PN,EA,DI,L0])
noncomputable def ES {X:Ctx} {w0:World}:Sy.Spec Try.prog X w0:=Ol 71 Try.call71 (Md) (fun p:(Pg×Ms)×Unit=>PM p.1) (fun p:(Pg×Ms)×Unit=>EA p.1) (fun p:(Pg×Ms)×Unit=>PN p.1) (fun p:(Pg×Ms)×Unit=>[some (DI p.1)]) qB qC Zf wk
abbrev PO (p:Pg×Ms):Prop:=True
abbrev EB (p:Pg×Ms):Bool:=p.2.out
abbrev Me (p:Pg×Ms):SV:=.tup []
abbrev DJ (p:Pg×Ms):MV:=mcW p.1 (if p.2.out=true then p.2.exh else p.2.spd)
noncomputable abbrev Mf:ArgM ((Pg×Ms)×Unit):=(amP (mMc) am0)
abbrev qD:Prop:=Ok Try.prog 96 ((Mf).args 0) (Mf).mem (fun p:(Pg×Ms)×Unit=>PO p.1) (fun p:(Pg×Ms)×Unit=>EB p.1) (fun p:(Pg×Ms)×Unit=>Me p.1) (fun p:(Pg×Ms)×Unit=>[some (DJ p.1)])
theorem qE:∀p,(fun p:(Pg×Ms)×Unit=>PO p.1) p→((fun p:(Pg×Ms)×Unit=>[some (DJ p.1)]) p).length=((Mf).mem p).length:=by intro p _;rfl
theorem qF:∀p,(fun p:(Pg×Ms)×Unit=>PO p.1) p→As ((fun p:(Pg×Ms)×Unit=>[some (DJ p.1)]) p).length ((fun p:(Pg×Ms)×Unit=>Me p.1) p)=true:=by intro p _;first|rfl|exact AO _ _|exact AP _ _|(simp[As,Bz,AO,AP];done)
theorem Zg:∀p,(fun p:(Pg×Ms)×Unit=>PO p.1) p→∀q,some q∈(fun p:(Pg×Ms)×Unit=>[some (DJ p.1)]) p→∀r∈q.2,∀c∈r,c.names=[]:=by intro p _;exact P5 _ _
attribute[local go_sem] EA EB ES DI DJ in
theorem wl:qD:=by
 rintro ⟨p,_u⟩ w M I lab fz xs hc hA hl hx
 refine MF Try.func96 rfl _ w M I lab fz (EB p) (DJ p) [ES] [] ((Mf).args 0 ⟨p,_u⟩) (Me p) xs hA hl hx (fun v hv k hk=>Nat.lt_of_lt_of_eq ((Mf).an 0 ⟨p,_u⟩ v hv k hk).2 (Nat.zero_add _)) (jN rfl) (Zg ⟨p,_u⟩ hc _ (List.mem_singleton.2 rfl)) ?_
 clear hx hl hA xs
 simp only[Try.f96]
 obtain⟨P,m⟩:=p
 cases ho:m.out with
 |true=>
  have h1:decide (m.fuel<1)=true:=ho
  simp only[↓eB,seval,go_sem,ho,h1]
  try simp only[A2,A3]
  repeat' first|exact ck|with_reducible apply And.intro|intro _
  all_goals first|exact trivial|(rename_i h;first|exact oI h|exact nah h)|(rename_i _ h _ g;exact sL h g)|decide|omega|(refine A0 [] ?_;simp only[↓eB,seval,go_sem,bne,Me,L0,ho])
 |false=>
  have h1:decide (m.fuel<1)=false:=ho
  simp only[↓eB,seval,go_sem,ho,h1]
  try simp only[A2,A3]
  repeat' first|exact ck|with_reducible apply And.intro|intro _
  all_goals first|exact trivial|(rename_i h;first|exact oI h|exact nah h)|(rename_i _ h _ g;exact sL h g)|decide|omega|(refine A0 [] ?_;simp only[↓eB,seval,go_sem,bne,Me,L0,ho])
noncomputable def ET {X:Ctx} {w0:World}:Sy.Spec Try.prog X w0:=Ol 96 Try.call96 (Mf) (fun p:(Pg×Ms)×Unit=>PO p.1) (fun p:(Pg×Ms)×Unit=>EB p.1) (fun p:(Pg×Ms)×Unit=>Me p.1) (fun p:(Pg×Ms)×Unit=>[some (DJ p.1)]) qE qF Zg wl
end Go.Proofs.Ytjnnmindcbgjhaa
namespace Go.Proofs.Ytjnnmindcbgjhaa
open Go Go.Sy Go.RowKit
theorem Ik (e:Ex):(SV.one (exC e)).tupB=false:=rfl
theorem Il (e:Cd):(SV.one (cdC e)).tupB=false:=rfl
theorem GB (q:Fa):(⟨q.nm,q.ret,q.P,q.m,q.vs⟩:Fa)=q:=rfl
noncomputable def cSp:Cod Sm:=GZ (fun s=>.one (.dp s.r)) (fun v a b h h'=>by
 cases v with
 |one c=>
  rcases h with rfl|⟨_,h2⟩
  ·rcases h' with h|⟨_,h4⟩
   ·simp only[C.dp.injEq]at h
    exact Mu a b h
   ·cases h4
  ·cases h2
 |agg l=>exact h.elim
 |tup l=>exact h.elim) (fun s=>rfl)
theorem KU (s:Sm):cSp.e s= .one (.dp s.r):=rfl
theorem KV (k no:Int) (x y:List UInt8) (e f:Ex) (cd:Cd) (ar:List Ar) (th el:List Sm):cSp.d (.one (.dp [.v (.int .i64 k),.v (.string (bs x)),.v (.string (bs y)),e.d,f.d,cd.d,.sl zAr (ar.map Ar.r),.sl zSm (th.map Sm.r),.sl zSm (el.map Sm.r),.v (.int .i64 no)]))=some (.mk k x y e f cd ar th el no):=by
 have h:cSp.d (.one (.dp (Sm.mk k x y e f cd ar th el no).r))=some (.mk k x y e f cd ar th el no):=D7 (e:=fun s:Sm=>.one (.dp s.r)) (Do _)
 rw[H7]at h;exact h
theorem U0 (l:List (List UInt8×Int)) (s:List UInt8):B4 ((mpI l).map fun p=>(p.1,[C.v p.2])) s=(B4 l s).map fun i=>[.v (.int .i64 i)]:=by
 unfold mpI
 rw[Nc (fun x:Value=>[C.v x]),Nc (fun x:Int=>Value.int .i64 x),Option.map_map];rfl
theorem Be (P:Pg) (s:List UInt8):B4 ((mpI (fI P.g.c)).map fun p=>(p.1,[C.v p.2])) s=(P.ci s).map fun i=>[.v (.int .i64 i)]:=U0 _ _
theorem Bf (P:Pg) (s:List UInt8):B4 ((mpI (fI (P.g.a.map Gy.s))).map fun p=>(p.1,[C.v p.2])) s=(P.ai s).map fun i=>[.v (.int .i64 i)]:=U0 _ _
theorem Bg (P:Pg) (s:List UInt8):B4 ((mpI (fI (P.fs.map Fn.name))).map fun p=>(p.1,[C.v p.2])) s=(P.fi s).map fun i=>[.v (.int .i64 i)]:=U0 _ _
theorem Bh (vs:Vs) (s:List UInt8):B4 (vsC vs) s=(B4 vs s).map Va.c:=Nc Va.c s vs
theorem Ly (vs:Vs) (s:List UInt8) (p:Bool) (n:Int) (t:List UInt8):CB (vsC vs) s [.v (.bool p),.v (.int .i64 n),.v (.string (bs t))]=vsC (CB vs s ⟨p,n,t⟩):=Sk Va.c s ⟨p,n,t⟩ vs
theorem Im (vs:Vs):List.flatMap (fun p=>List.flatMap C.names p.snd) (vsC vs)=[]:=List.flatMap_eq_nil_iff.2 fun p hp=>List.flatMap_eq_nil_iff.2 fun c hc=>TX vs c (List.mem_flatMap.2 ⟨p,hp,hc⟩)
theorem Io (f:Nat→Nat) (vs:Vs):(vsC vs).map (fun p=>(p.1,p.2.map (rnC f)))=vsC vs:=Dp fun p hp=>by
 show (p.1,p.2.map _)=p
 rw[Dp fun c hc=>Ei (TX vs c (List.mem_flatMap.2 ⟨p,hp,hc⟩))]
theorem A1 (t:Nat) (ag:Bool) (es:List (List UInt8×List C)) (r:List (Nat×Ch)) (K:St→Prop):I5 ((t,.mp ag es)::r) K=I5 r K:=rfl
theorem U1 {l:List Nb} {i:Int} (h:0≤i∧i<(l.length:Int)) (z:List C):(l.map Nb.c).getD i.toNat z=[.v (.string (bs (l.getD i.toNat ⟨[],0⟩).s)),.v (.int .i64 (l.getD i.toNat ⟨[],0⟩).n)]:=by
 have h1:i.toNat<l.length:=by omega
 simp[List.getD,h1,Nb.c]
theorem Xg {l:List Na} {i:Int} (h:0≤i∧i<(l.length:Int)) (z:List C):(l.map Na.c).getD i.toNat z=[.v (.string (bs (l.getD i.toNat ⟨[],[]⟩).s)),.ov zI ((l.getD i.toNat ⟨[],[]⟩).l.map cI)]:=by
 have h1:i.toNat<l.length:=by omega
 simp[List.getD,h1,Na.c]
abbrev Mg (q:Fa) (s:Sm) (kd:Int):Prop:=True
abbrev Bc (q:Fa) (s:Sm) (kd:Int):Bool:=true
abbrev B7 (q:Fa) (s:Sm) (kd:Int):Fa:={ q with m:=q.m.brk q.nm s.no kd }
abbrev BM (q:Fa) (s:Sm) (kd:Int):Fa:={ q with m:=q.m.brk q.nm s.no kd }
abbrev K8 (q:Fa) (s:Sm) (kd:Int):SV:=.tup []
theorem qG:∀b,∀v∈ArgC.e (acS (cSp) (acS (cInt .i64) ac0)) b,v.tupB=false:=by rintro ⟨x0,x1,_⟩ v hv;simp only[HU,HT,List.mem_cons,List.not_mem_nil,or_false]at hv;rcases hv with rfl|rfl<;>first|rfl|exact Ik _|exact Il _
noncomputable abbrev Hr:ArgL (Fa×(Sm)×(Int)×Unit):=amFr (acS (cSp) (acS (cInt .i64) ac0)) qG
abbrev Rv:Prop:=E8 Try.prog 99 (Hr).args (Hr).mem (fun p:(Fa×(Sm)×(Int)×Unit)=>Mg p.1 p.2.1 p.2.2.1) (fun p:(Fa×(Sm)×(Int)×Unit)=>Bc p.1 p.2.1 p.2.2.1) (fun p:(Fa×(Sm)×(Int)×Unit)=>K8 p.1 p.2.1 p.2.2.1) (fun p:(Fa×(Sm)×(Int)×Unit)=>Fa.memO (B7 p.1 p.2.1 p.2.2.1)) (fun p:(Fa×(Sm)×(Int)×Unit)=>mlO (Fa.pan (BM p.1 p.2.1 p.2.2.1)))
theorem qH:∀p,(fun p:(Fa×(Sm)×(Int)×Unit)=>Mg p.1 p.2.1 p.2.2.1) p→(fun p:(Fa×(Sm)×(Int)×Unit)=>Bc p.1 p.2.1 p.2.2.1) p=false→Dq ((Hr).mem p).length ((fun p:(Fa×(Sm)×(Int)×Unit)=>Fa.memO (B7 p.1 p.2.1 p.2.2.1)) p)=true∧kdL ((Hr).mem p) ((fun p:(Fa×(Sm)×(Int)×Unit)=>Fa.memO (B7 p.1 p.2.1 p.2.2.1)) p)=true∧EZ ((fun p:(Fa×(Sm)×(Int)×Unit)=>Fa.memO (B7 p.1 p.2.1 p.2.2.1)) p) ((fun p:(Fa×(Sm)×(Int)×Unit)=>K8 p.1 p.2.1 p.2.2.1) p)∧∀q,some q∈(fun p:(Fa×(Sm)×(Int)×Unit)=>Fa.memO (B7 p.1 p.2.1 p.2.2.1)) p→DO ((fun p:(Fa×(Sm)×(Int)×Unit)=>Fa.memO (B7 p.1 p.2.1 p.2.2.1)) p).length q:=fun p _ _=>have h:=Db p.1 (B7 p.1 p.2.1 p.2.2.1);⟨h.1,h.2.1,rfl,h.2.2⟩
theorem qI:∀p,(fun p:(Fa×(Sm)×(Int)×Unit)=>Mg p.1 p.2.1 p.2.2.1) p→(fun p:(Fa×(Sm)×(Int)×Unit)=>Bc p.1 p.2.1 p.2.2.1) p=true→((fun p:(Fa×(Sm)×(Int)×Unit)=>mlO (Fa.pan (BM p.1 p.2.1 p.2.2.1))) p).length=((Hr).mem p).length∧kdL ((Hr).mem p) ((fun p:(Fa×(Sm)×(Int)×Unit)=>mlO (Fa.pan (BM p.1 p.2.1 p.2.2.1))) p)=true∧∀q,some q∈(fun p:(Fa×(Sm)×(Int)×Unit)=>mlO (Fa.pan (BM p.1 p.2.1 p.2.2.1))) p→DO ((fun p:(Fa×(Sm)×(Int)×Unit)=>mlO (Fa.pan (BM p.1 p.2.1 p.2.2.1))) p).length q:=fun p _ _=>IQ p.1 (BM p.1 p.2.1 p.2.2.1)
theorem qJ:∀p,(fun p:(Fa×(Sm)×(Int)×Unit)=>Mg p.1 p.2.1 p.2.2.1) p→(fun p:(Fa×(Sm)×(Int)×Unit)=>Bc p.1 p.2.1 p.2.2.1) p=true→Dq ((Hr).mem p).length ((fun p:(Fa×(Sm)×(Int)×Unit)=>Fa.memO (B7 p.1 p.2.1 p.2.2.1)) p)=true∧EZ ((fun p:(Fa×(Sm)×(Int)×Unit)=>Fa.memO (B7 p.1 p.2.1 p.2.2.1)) p) ((fun p:(Fa×(Sm)×(Int)×Unit)=>K8 p.1 p.2.1 p.2.2.1) p):=fun p _ _=>⟨(Db p.1 (B7 p.1 p.2.1 p.2.2.1)).1,rfl⟩
noncomputable def VC {X:Ctx} {w0:World} (h:Rv):Sy.Spec Try.prog X w0:=Dj 99 Try.call99 (Hr) (fun p:(Fa×(Sm)×(Int)×Unit)=>Mg p.1 p.2.1 p.2.2.1) (fun p:(Fa×(Sm)×(Int)×Unit)=>Bc p.1 p.2.1 p.2.2.1) (fun p:(Fa×(Sm)×(Int)×Unit)=>K8 p.1 p.2.1 p.2.2.1) (fun p:(Fa×(Sm)×(Int)×Unit)=>Fa.memO (B7 p.1 p.2.1 p.2.2.1)) (fun p:(Fa×(Sm)×(Int)×Unit)=>mlO (Fa.pan (BM p.1 p.2.1 p.2.2.1))) (qH) (qI) (qJ) (fun _=>rfl) h
theorem Cj {X:Ctx} {w0:World} (h:Rv):(VC (X:=X) (w0:=w0) h).f=99:=rfl
theorem Ck {X:Ctx} {w0:World} (h:Rv) (t:Nat) (args:List SV) (H:Hp):(VC (X:=X) (w0:=w0) h).fn t args H=spL X ((Hr).d H args) t H (fun p:(Fa×(Sm)×(Int)×Unit)=>Mg p.1 p.2.1 p.2.2.1) (fun p:(Fa×(Sm)×(Int)×Unit)=>Bc p.1 p.2.1 p.2.2.1) (fun p:(Fa×(Sm)×(Int)×Unit)=>K8 p.1 p.2.1 p.2.2.1) (fun p:(Fa×(Sm)×(Int)×Unit)=>Fa.memO (B7 p.1 p.2.1 p.2.2.1)) (fun p:(Fa×(Sm)×(Int)×Unit)=>mlO (Fa.pan (BM p.1 p.2.1 p.2.2.1))):=rfl
theorem wm:Rv:=by
 rintro ⟨q,s,kd,_u⟩ w M I lab fz xs hc hA hl hx
 refine Cb Try.func99 rfl (Fa.mem q) w M I lab fz (Bc q s kd) (Fa.pan (BM q s kd)) (Fa.memO (B7 q s kd)) [HM] [] ((Hr).args ⟨q,s,kd,_u⟩) (K8 q s kd) xs hA hl hx (Gm _ _ _ _) (jN rfl) (Nat.le_refl _) rfl (IR _) ?_
 clear hx hl hA xs
 simp only[Try.f99]
 obtain⟨k0,x,y,e,f,cd,ar,th,el,no⟩:=s
 simp only[↓eB,seval,go_sem,G5,G6,G7,G4,IB,IC,EK,EL,ID,HE,IE,GB,Fa.mem,Fa.memO,Fa.pan,frC,lmH,lmO,chL,ML.ch,DQ,DR,E9,CR,EY,nmX,xt,Dl,ML.ren,rnC,EO,F8,vrQ,Fm,Fo,Ej,Ds,Dt,Dr,DP,D8,fcN,KU,KV,BN,BE,BO,BP,BJ,BQ,Cx,Cy,Im,Io,↓A1,H7,Sm.k,Sm.x,Sm.y,Sm.e,Sm.f,Sm.cd,Sm.ar,Sm.th,Sm.el,Sm.no,AA,AB,AK,HF,HG,Fj,mcC,mcW,Eb,Fk,FI,FJ,FM,Ms.brk,Ms.exh,Ms.spd,HM,FE,Dv,Bc,BM,B7]
 try simp only[A2,A3]
 repeat' first|exact ck|with_reducible apply And.intro|intro _
 all_goals first|exact trivial|(rename_i h;first|exact oI h|exact nah h)|(rename_i _ h _ g;exact sL h g)|decide|omega|(refine A0 [] ?_;simp only[↓eB,seval,go_sem,bne,K8,Bc,B7,BM,A6,G5,G6,G7,G4,IB,IC,EK,EL,ID,HE,IE,GB,Fa.mem,Fa.memO,Fa.pan,frC,lmH,lmO,chL,ML.ch,DQ,DR,E9,CR,EY,nmX,xt,Dl,ML.ren,rnC,EO,F8,vrQ,Fm,Fo,Ej,Ds,Dt,Dr,DP,D8,fcN,KU,KV,BN,BE,BO,BP,BJ,BQ,Cx,Cy,Im,Io,↓A1,H7,Sm.k,Sm.x,Sm.y,Sm.e,Sm.f,Sm.cd,Sm.ar,Sm.th,Sm.el,Sm.no,AA,AB,AK,HF,HG,Fj,mcC,mcW,Eb,Fk,FI,FJ,FM,Ms.brk,Ms.exh,Ms.spd])
noncomputable def Bd {X:Ctx} {w0:World}:Sy.Spec Try.prog X w0:=VC wm
end Go.Proofs.Ytjnnmindcbgjhaa
