/- A function that defers, in its caller's memory. No conditions but those in each statement. -/
import Derived.Test.YtjnnmindcbgjhaaSy38
import Derived.Test.YtjnnmindcbgjhaaRm2
set_option linter.unusedVariables false
set_option linter.unusedSimpArgs false
set_option maxRecDepth 20000
set_option maxHeartbeats 4000000
namespace Go.Sy
open Go Go.RowKit
section
variable {P:Program} {X:Ctx} {w0:World} {n:Nat}
theorem WH {s:St} {a:Act} {w:World} (h:Holds X w0 n s a w) {t:Nat} (ht:lkp s.e t=none) (sl:List (Nat×Nat)) (hs:∀p∈sl,lkp s.e p.1=some (true,.one (.p p.2 0 0))∧p.1≠t) (ns:List Nat) (hn:∀k∈ns,(lkp s.h k).isSome=true) (pn:Option (List (Nat×List C×List (List C)))) :
  ∃I:Nm,a.tmps.size=n∧(∀p∈X.F,I p.1=p.2)∧(∀p∈sl,a.tmps[p.1]?=some ((I p.2).p 0 0))∧∀(F:Value) (df:List Deferred),Holds ⟨X.M,X.Z,ns.map fun k=>(k,I k),pn,df,[]⟩ w0 n s { (a.put (some t) F) with defers:=df } w:=by
 obtain⟨hW,I,lab,fz,hA⟩:=h
 have hput:∀(F:Value) (j:Nat),j≠t→(a.put (some t) F).tmps[j]?=a.tmps[j]?:=by
  intro F j hj
  simp only[Act.put]
  rw[Array.getElem?_setIfInBounds,if_neg (Ne.symm hj)]
 refine⟨I,hA.n,fun p hp=>(hA.m.fix p hp).2,fun p hp=>?_,fun F df=>⟨hW,I,lab,fz,by rw[← hA.n];exact PM a (some t) F,⟨rfl,fun p hp=>by cases hp⟩,fun j g v hj=>?_,⟨hA.m.h,hA.m.wf,hA.m.own,hA.m.fzl,hA.m.fzo,hA.m.kept,fun p hp=>?_⟩⟩⟩
 ·obtain⟨h1,h2⟩:=hs p hp
  obtain⟨x,hx,hd⟩:=hA.e p.1 true _ h1
  simp only[if_true]at hd
  rw[hx,A0Y hd]
 ·have hjt:j≠t:=by rintro rfl;rw[ht]at hj;cases hj
  obtain⟨x,hx,hd⟩:=hA.e j g v hj
  exact⟨x,by show (a.put (some t) F).tmps[j]?=_;rw[hput F _ hjt];exact hx,hd⟩
 ·obtain⟨k,hk,rfl⟩:=List.mem_map.1 hp
  exact⟨hn k hk,rfl⟩
theorem cP {f:FuncId} {fn:Func} {c:Code} (hf:P.funcs[f]?=some fn) (hb:fn.body=some c) (mem:List MV) (w:World) (M:Nat→Prop) (I:Nm) (lab:Lab) (fz:Nat→Prop) (args:List SV) (mem':List (Option MV)) (R:SV) (xs:List Value)
  (hA:AtW (mX M fz I mem.length) w I lab fz (lkp (Eh 0 mem)) w) (hlen:xs.length=args.length) (hx:∀(j:Nat) (v:SV) (x:Value),args[j]?=some v→xs[j]?=some x→Ab (hp w) fz lab I (lkp (Eh 0 mem)) v x)
  (hnm:∀v∈args,∀k∈v.names,k<mem.length) (hn:args.length≤fn.ntmps)
  (h:RV (P:=P) (mX M fz I mem.length) w fn.ntmps c ⟨H4 0 args,Eh 0 mem⟩ (bodyPostD P fn (KA w M fz I mem.length mem' R))):Calls P f xs.toArray w (KA w M fz I mem.length mem' R):=by
 refine calls_of_wp_defers hf hb (h _ w ⟨?_,I,lab,fz,?_,⟨rfl,fun p hp=>by cases hp⟩,?_,hA⟩)
 ·intro t g v ht _ k hk
  rw[FW]at ht
  simp only[Nat.zero_le,if_true,Nat.sub_zero,Option.map_eq_some_iff,jP]at ht
  obtain⟨u,hu,rfl,rfl⟩:=ht
  have:=hnm u (List.mem_of_getElem? hu) k hk
  show (lkp (Eh 0 mem) k).isSome=true
  rw[Eh,GE]
  simp[this]
 ·simp[hlen];omega
 ·intro t g v ht
  rw[FW]at ht
  simp only[Nat.zero_le,if_true,Nat.sub_zero,Option.map_eq_some_iff,jP]at ht
  obtain⟨u,hu,rfl,rfl⟩:=ht
  have hlt:t<args.length:=(List.getElem?_eq_some_iff.1 hu).1
  have hlt2:t<xs.length:=by omega
  refine⟨xs[t],?_,?_⟩
  ·rw[Array.getElem?_append_left (by simpa using hlt2)]
   simp[hlt2]
  ·simp only[if_true]
   exact hx t u _ hu (List.getElem?_eq_getElem hlt2)
theorem YN {X':Ctx} {w:World} {I:Nm} {lab:Lab} {fz:Nat→Prop} {H:Hp} (hM:X'.M=X.M) (hZ:X'.Z=X.Z) (hF:∀p∈X'.F,p∈X.F) (h:AtW X w0 I lab fz H w):AtW X' w0 I lab fz H w:=
 ⟨h.h,h.wf,by rw[hM];exact h.own,h.fzl,by rw[hM,hZ];exact h.fzo,by rw[hM];exact h.kept,fun p hp=>h.fix p (hF p hp)⟩
theorem nD {M fz0:Nat→Prop} {I0:Nm} {m:Nat} {s:St} {a:Act} {w:World} {fn:Func} {R:SV} {mem':List (Option MV)} (hM:M=X.M) (hZ:fz0=X.Z) (hF:∀p∈memF I0 0 m,p∈X.F) (hl:m≤mem'.length) (h:Lb P X fn.results.toList (gi R mem') s) (hs:Holds X w0 n s a w) :
  ∃x,(results fn a.tmps).run P w= .ok x w∧KA w0 M fz0 I0 m mem' R (.returned x) w:=by
 obtain⟨cs,s',vs,h1,h2,h3,h4,h5,h6⟩:=h
 obtain⟨_,I',lab',fz',hA'⟩:=FH h1 a w hs
 obtain⟨x,x1,x2⟩:=Il hA' h2 h3
 rw[h4]at x2
 refine⟨x,x1,x,I',lab',fz',rfl,Oq (YN (X:=X) (X':=mX M fz0 I0 m) hM hZ hF hA'.m) h6 (fun p hp'=>?_),MI h5 x2⟩
 obtain⟨q1,q2,_⟩:=H5 hp'
 exact NR _ _ _ q1 (by omega)
theorem fc {ops:Array Oper} (sp:List (Spec P X w0)) {j0:Nat} {l:List Oper} {st:St} {Q:St→Prop} {Qd:Exit→Act→World→Prop} {a:Act} {w:World} (hP:∀ch a w,GG X a→JN X w0 ch w→Qd (.panic ch) a w) (hQ:∀s' a w,Q s'→Holds X w0 n s' a w→Qd .normal a w)
  (hl:∀j,l[j]?=ops[j0+j]?) (hv:Ik sp n ops l st [] VI Q) (hs:Holds X w0 n st a w):wpOps P ops Qd (List.range' j0 l.length) a w:=by
 obtain⟨hW,I,lab,fz,hA⟩:=hs
 obtain⟨xs,fs,s',h1,_,h2,h3,h4⟩:=NQ sp n ops _ _ _ _ _ hv
 refine Rn hP l j0 _ _ xs fs a w I lab fz hl h1 hW hA fun a' w' I' lab' fz' hW' hA'=>?_
 have e1:CO xs 0 (fun _=>true) (lkp st.e)=J1 xs (lkp st.e):=rfl
 have e2:C5 xs 0 (fun _=>true) (lkp st.h)=J2 xs (lkp st.h):=rfl
 rw[e1,e2,← h3,← h4]at hW' hA'
 exact hQ s' a' w' (h2 (fun t p ht=>hA'.m.h t _ ht)) ⟨hW',I',lab',fz',hA'⟩
end
end Go.Sy
namespace Go.Proofs.Ytjnnmindcbgjhaa
open Go Go.Sy Go.RowKit
abbrev Mw (p:Pg×Ms) (fn:List UInt8) (al:Int) (kd:Int):Prop:=True
abbrev F3 (p:Pg×Ms) (fn:List UInt8) (al:Int) (kd:Int):Bool:=true
abbrev Mx (p:Pg×Ms) (fn:List UInt8) (al:Int) (kd:Int):SV:=.tup []
abbrev Dn (p:Pg×Ms) (fn:List UInt8) (al:Int) (kd:Int):MV:=mcW p.1 (p.2.brk fn al kd)
noncomputable abbrev Kw:ArgM ((Pg×Ms)×(List UInt8)×(Int)×(Int)×Unit):=(amP (mMc) (amD (cStr) (amD (cInt .i64) (amD (cInt .i64) am0))))
abbrev fe:Prop:=O7 Try.prog 51 ((Kw).args 0) (Kw).mem (fun p:(Pg×Ms)×(List UInt8)×(Int)×(Int)×Unit=>Mw p.1 p.2.1 p.2.2.1 p.2.2.2.1) (fun p:(Pg×Ms)×(List UInt8)×(Int)×(Int)×Unit=>F3 p.1 p.2.1 p.2.2.1 p.2.2.2.1) (fun p:(Pg×Ms)×(List UInt8)×(Int)×(Int)×Unit=>Mx p.1 p.2.1 p.2.2.1 p.2.2.2.1) (fun p:(Pg×Ms)×(List UInt8)×(Int)×(Int)×Unit=>[some (Dn p.1 p.2.1 p.2.2.1 p.2.2.2.1)])
theorem ff:∀p,(fun p:(Pg×Ms)×(List UInt8)×(Int)×(Int)×Unit=>Mw p.1 p.2.1 p.2.2.1 p.2.2.2.1) p→((fun p:(Pg×Ms)×(List UInt8)×(Int)×(Int)×Unit=>[some (Dn p.1 p.2.1 p.2.2.1 p.2.2.2.1)]) p).length=((Kw).mem p).length:=by intro p _;rfl
theorem fg:∀p,(fun p:(Pg×Ms)×(List UInt8)×(Int)×(Int)×Unit=>Mw p.1 p.2.1 p.2.2.1 p.2.2.2.1) p→BF ((fun p:(Pg×Ms)×(List UInt8)×(Int)×(Int)×Unit=>[some (Dn p.1 p.2.1 p.2.2.1 p.2.2.2.1)]) p).length ((fun p:(Pg×Ms)×(List UInt8)×(Int)×(Int)×Unit=>Mx p.1 p.2.1 p.2.2.1 p.2.2.2.1) p)=true:=by intro p _;first|rfl|exact Ak _ _|exact Al _ _|(simp[BF,CV,Ak,Al];done)
theorem WI:∀p,(fun p:(Pg×Ms)×(List UInt8)×(Int)×(Int)×Unit=>Mw p.1 p.2.1 p.2.2.1 p.2.2.2.1) p→∀q,some q∈(fun p:(Pg×Ms)×(List UInt8)×(Int)×(Int)×Unit=>[some (Dn p.1 p.2.1 p.2.2.1 p.2.2.2.1)]) p→∀r∈q.2,∀c∈r,c.names=[]:=by intro p _;exact OO _ _
attribute [local go_sem] Ms.brk Ms.exh Ms.spd FO Gj Gk mcC mcW FP Ds F9 F8 FB
theorem nE:fe:=by
 rintro ⟨p,fn,al,kd,_u⟩ w M I lab fz xs hc hA hl hx
 refine Li Try.func51 rfl _ w M I lab fz (F3 p fn al kd) (Dn p fn al kd) [] [] ((Kw).args 0 ⟨p,fn,al,kd,_u⟩) (Mx p fn al kd) xs hA hl hx (fun v hv k hk=>Nat.lt_of_lt_of_eq ((Kw).an 0 ⟨p,fn,al,kd,_u⟩ v hv k hk).2 (Nat.zero_add _)) (jN rfl) (WI ⟨p,fn,al,kd,_u⟩ hc _ (List.mem_singleton.2 rfl)) ?_
 clear hx hl hA xs
 simp only[Try.f51]
 obtain⟨P,m⟩:=p
 simp only[↓eB,seval,go_sem,F3,Dn]
 try simp only[A3,A4]
 repeat' first|exact ck|with_reducible apply And.intro|intro _
 all_goals first|exact trivial|(rename_i h;first|exact oI h|exact nah h)|(rename_i _ h _ g;exact sL h g)|decide|omega|(refine A0 [] ?_;simp only[↓eB,seval,go_sem,bne,Mx,F3,Dn,KN])
noncomputable def Gr {X:Ctx} {w0:World}:Sy.Spec Try.prog X w0:=O8 51 Try.call51 (Kw) (fun p:(Pg×Ms)×(List UInt8)×(Int)×(Int)×Unit=>Mw p.1 p.2.1 p.2.2.1 p.2.2.2.1) (fun p:(Pg×Ms)×(List UInt8)×(Int)×(Int)×Unit=>F3 p.1 p.2.1 p.2.2.1 p.2.2.2.1) (fun p:(Pg×Ms)×(List UInt8)×(Int)×(Int)×Unit=>Mx p.1 p.2.1 p.2.2.1 p.2.2.2.1) (fun p:(Pg×Ms)×(List UInt8)×(Int)×(Int)×Unit=>[some (Dn p.1 p.2.1 p.2.2.1 p.2.2.2.1)]) ff fg WI nE
abbrev Oc (p:Pg×Ms):Prop:=True
abbrev Du (p:Pg×Ms):Bool:=true
abbrev Od (p:Pg×Ms):SV:=.tup []
abbrev DC (p:Pg×Ms):MV:=mcW p.1 p.2.exh
noncomputable abbrev M7:ArgM ((Pg×Ms)×Unit):=(amP (mMc) am0)
abbrev nF:Prop:=O7 Try.prog 71 ((M7).args 0) (M7).mem (fun p:(Pg×Ms)×Unit=>Oc p.1) (fun p:(Pg×Ms)×Unit=>Du p.1) (fun p:(Pg×Ms)×Unit=>Od p.1) (fun p:(Pg×Ms)×Unit=>[some (DC p.1)])
theorem nG:∀p,(fun p:(Pg×Ms)×Unit=>Oc p.1) p→((fun p:(Pg×Ms)×Unit=>[some (DC p.1)]) p).length=((M7).mem p).length:=by intro p _;rfl
theorem nH:∀p,(fun p:(Pg×Ms)×Unit=>Oc p.1) p→BF ((fun p:(Pg×Ms)×Unit=>[some (DC p.1)]) p).length ((fun p:(Pg×Ms)×Unit=>Od p.1) p)=true:=by intro p _;first|rfl|exact Ak _ _|exact Al _ _|(simp[BF,CV,Ak,Al];done)
theorem YO:∀p,(fun p:(Pg×Ms)×Unit=>Oc p.1) p→∀q,some q∈(fun p:(Pg×Ms)×Unit=>[some (DC p.1)]) p→∀r∈q.2,∀c∈r,c.names=[]:=by intro p _;exact OO _ _
theorem uT:nF:=by
 rintro ⟨p,_u⟩ w M I lab fz xs hc hA hl hx
 refine Li Try.func71 rfl _ w M I lab fz (Du p) (DC p) [] [] ((M7).args 0 ⟨p,_u⟩) (Od p) xs hA hl hx (fun v hv k hk=>Nat.lt_of_lt_of_eq ((M7).an 0 ⟨p,_u⟩ v hv k hk).2 (Nat.zero_add _)) (jN rfl) (YO ⟨p,_u⟩ hc _ (List.mem_singleton.2 rfl)) ?_
 clear hx hl hA xs
 simp only[Try.f71]
 obtain⟨P,m⟩:=p
 simp only[↓eB,seval,go_sem,Du,DC]
 try simp only[A3,A4]
 repeat' first|exact ck|with_reducible apply And.intro|intro _
 all_goals first|exact trivial|(rename_i h;first|exact oI h|exact nah h)|(rename_i _ h _ g;exact sL h g)|decide|omega|(refine A0 [] ?_;simp only[↓eB,seval,go_sem,bne,Od,Du,DC,KN])
noncomputable def EH {X:Ctx} {w0:World}:Sy.Spec Try.prog X w0:=O8 71 Try.call71 (M7) (fun p:(Pg×Ms)×Unit=>Oc p.1) (fun p:(Pg×Ms)×Unit=>Du p.1) (fun p:(Pg×Ms)×Unit=>Od p.1) (fun p:(Pg×Ms)×Unit=>[some (DC p.1)]) nG nH YO uT
abbrev Oe (p:Pg×Ms):Prop:=True
abbrev Dv (p:Pg×Ms):Bool:=p.2.out
abbrev M8 (p:Pg×Ms):SV:=.tup []
abbrev DD (p:Pg×Ms):MV:=mcW p.1 (if p.2.out=true then p.2.exh else p.2.spd)
noncomputable abbrev M9:ArgM ((Pg×Ms)×Unit):=(amP (mMc) am0)
abbrev nI:Prop:=O7 Try.prog 96 ((M9).args 0) (M9).mem (fun p:(Pg×Ms)×Unit=>Oe p.1) (fun p:(Pg×Ms)×Unit=>Dv p.1) (fun p:(Pg×Ms)×Unit=>M8 p.1) (fun p:(Pg×Ms)×Unit=>[some (DD p.1)])
theorem nJ:∀p,(fun p:(Pg×Ms)×Unit=>Oe p.1) p→((fun p:(Pg×Ms)×Unit=>[some (DD p.1)]) p).length=((M9).mem p).length:=by intro p _;rfl
theorem nK:∀p,(fun p:(Pg×Ms)×Unit=>Oe p.1) p→BF ((fun p:(Pg×Ms)×Unit=>[some (DD p.1)]) p).length ((fun p:(Pg×Ms)×Unit=>M8 p.1) p)=true:=by intro p _;first|rfl|exact Ak _ _|exact Al _ _|(simp[BF,CV,Ak,Al];done)
theorem YP:∀p,(fun p:(Pg×Ms)×Unit=>Oe p.1) p→∀q,some q∈(fun p:(Pg×Ms)×Unit=>[some (DD p.1)]) p→∀r∈q.2,∀c∈r,c.names=[]:=by intro p _;exact OO _ _
attribute[local go_sem] Du Dv EH DC DD in
theorem uU:nI:=by
 rintro ⟨p,_u⟩ w M I lab fz xs hc hA hl hx
 refine Li Try.func96 rfl _ w M I lab fz (Dv p) (DD p) [EH] [] ((M9).args 0 ⟨p,_u⟩) (M8 p) xs hA hl hx (fun v hv k hk=>Nat.lt_of_lt_of_eq ((M9).an 0 ⟨p,_u⟩ v hv k hk).2 (Nat.zero_add _)) (jN rfl) (YP ⟨p,_u⟩ hc _ (List.mem_singleton.2 rfl)) ?_
 clear hx hl hA xs
 simp only[Try.f96]
 obtain⟨P,m⟩:=p
 cases ho:m.out with
 |true=>
  have h1:decide (m.fuel<1)=true:=ho
  simp only[↓eB,seval,go_sem,ho,h1]
  try simp only[A3,A4]
  repeat' first|exact ck|with_reducible apply And.intro|intro _
  all_goals first|exact trivial|(rename_i h;first|exact oI h|exact nah h)|(rename_i _ h _ g;exact sL h g)|decide|omega|(refine A0 [] ?_;simp only[↓eB,seval,go_sem,bne,M8,KN,ho])
 |false=>
  have h1:decide (m.fuel<1)=false:=ho
  simp only[↓eB,seval,go_sem,ho,h1]
  try simp only[A3,A4]
  repeat' first|exact ck|with_reducible apply And.intro|intro _
  all_goals first|exact trivial|(rename_i h;first|exact oI h|exact nah h)|(rename_i _ h _ g;exact sL h g)|decide|omega|(refine A0 [] ?_;simp only[↓eB,seval,go_sem,bne,M8,KN,ho])
noncomputable def EI {X:Ctx} {w0:World}:Sy.Spec Try.prog X w0:=O8 96 Try.call96 (M9) (fun p:(Pg×Ms)×Unit=>Oe p.1) (fun p:(Pg×Ms)×Unit=>Dv p.1) (fun p:(Pg×Ms)×Unit=>M8 p.1) (fun p:(Pg×Ms)×Unit=>[some (DD p.1)]) nJ nK YP uU
end Go.Proofs.Ytjnnmindcbgjhaa
namespace Go.Proofs.Ytjnnmindcbgjhaa
open Go Go.Sy Go.RowKit
theorem ID (e:Ex):(SV.one (exC e)).tupB=false:=rfl
theorem IE (e:Cd):(SV.one (cdC e)).tupB=false:=rfl
theorem Fu (q:Fa):(⟨q.nm,q.ret,q.P,q.m,q.vs⟩:Fa)=q:=rfl
noncomputable def cSp:Cod Sm:=Hk (fun s=>.one (.dp s.r)) (fun v a b h h'=>by
 cases v with
 |one c=>
  rcases h with rfl|⟨_,h2⟩
  ·rcases h' with h|⟨_,h4⟩
   ·simp only[C.dp.injEq]at h
    exact MO a b h
   ·cases h4
  ·cases h2
 |agg l=>exact h.elim
 |tup l=>exact h.elim) (fun s=>rfl)
theorem K0 (s:Sm):cSp.e s= .one (.dp s.r):=rfl
theorem K1 (k no:Int) (x y:List UInt8) (e f:Ex) (cd:Cd) (ar:List Ar) (th el:List Sm):cSp.d (.one (.dp [.v (.int .i64 k),.v (.string (bs x)),.v (.string (bs y)),e.d,f.d,cd.d,.sl zAr (ar.map Ar.r),.sl zSm (th.map Sm.r),.sl zSm (el.map Sm.r),.v (.int .i64 no)]))=some (.mk k x y e f cd ar th el no):=by
 have h:cSp.d (.one (.dp (Sm.mk k x y e f cd ar th el no).r))=some (.mk k x y e f cd ar th el no):=E9 (e:=fun s:Sm=>.one (.dp s.r)) (EV _)
 rw[Gc]at h;exact h
theorem Sr (l:List (List UInt8×Int)) (s:List UInt8):B0 ((mpI l).map fun p=>(p.1,[C.v p.2])) s=(B0 l s).map fun i=>[.v (.int .i64 i)]:=by
 unfold mpI
 rw[N1 (fun x:Value=>[C.v x]),N1 (fun x:Int=>Value.int .i64 x),Option.map_map];rfl
theorem Be (P:Pg) (s:List UInt8):B0 ((mpI (fI P.g.c)).map fun p=>(p.1,[C.v p.2])) s=(P.ci s).map fun i=>[.v (.int .i64 i)]:=Sr _ _
theorem Bf (P:Pg) (s:List UInt8):B0 ((mpI (fI (P.g.a.map Gy.s))).map fun p=>(p.1,[C.v p.2])) s=(P.ai s).map fun i=>[.v (.int .i64 i)]:=Sr _ _
theorem Bg (P:Pg) (s:List UInt8):B0 ((mpI (fI (P.fs.map Fn.name))).map fun p=>(p.1,[C.v p.2])) s=(P.fi s).map fun i=>[.v (.int .i64 i)]:=Sr _ _
theorem Bh (vs:Vs) (s:List UInt8):B0 (vsC vs) s=(B0 vs s).map Va.c:=N1 Va.c s vs
theorem LM (vs:Vs) (s:List UInt8) (p:Bool) (n:Int) (t:List UInt8):C8 (vsC vs) s [.v (.bool p),.v (.int .i64 n),.v (.string (bs t))]=vsC (C8 vs s ⟨p,n,t⟩):=Ra Va.c s ⟨p,n,t⟩ vs
theorem IF (vs:Vs):List.flatMap (fun p=>List.flatMap C.names p.snd) (vsC vs)=[]:=List.flatMap_eq_nil_iff.2 fun p hp=>List.flatMap_eq_nil_iff.2 fun c hc=>SM vs c (List.mem_flatMap.2 ⟨p,hp,hc⟩)
theorem IG (f:Nat→Nat) (vs:Vs):(vsC vs).map (fun p=>(p.1,p.2.map (rnC f)))=vsC vs:=Dh fun p hp=>by
 show (p.1,p.2.map _)=p
 rw[Dh fun c hc=>EW (SM vs c (List.mem_flatMap.2 ⟨p,hp,hc⟩))]
theorem A1 (t:Nat) (ag:Bool) (es:List (List UInt8×List C)) (r:List (Nat×Ch)) (K:St→Prop):Hb ((t,.mp ag es)::r) K=Hb r K:=rfl
theorem Ss {l:List Nb} {i:Int} (h:0≤i∧i<(l.length:Int)) (z:List C):(l.map Nb.c).getD i.toNat z=[.v (.string (bs (l.getD i.toNat ⟨[],0⟩).s)),.v (.int .i64 (l.getD i.toNat ⟨[],0⟩).n)]:=by
 have h1:i.toNat<l.length:=by omega
 simp[List.getD,h1,Nb.c]
theorem WJ {l:List Na} {i:Int} (h:0≤i∧i<(l.length:Int)) (z:List C):(l.map Na.c).getD i.toNat z=[.v (.string (bs (l.getD i.toNat ⟨[],[]⟩).s)),.ov zI ((l.getD i.toNat ⟨[],[]⟩).l.map cI)]:=by
 have h1:i.toNat<l.length:=by omega
 simp[List.getD,h1,Na.c]
abbrev MA (q:Fa) (s:Sm) (kd:Int):Prop:=True
abbrev Bc (q:Fa) (s:Sm) (kd:Int):Bool:=true
abbrev B3 (q:Fa) (s:Sm) (kd:Int):Fa:={ q with m:=q.m.brk q.nm s.no kd }
abbrev BL (q:Fa) (s:Sm) (kd:Int):Fa:={ q with m:=q.m.brk q.nm s.no kd }
abbrev Jh (q:Fa) (s:Sm) (kd:Int):SV:=.tup []
theorem nL:∀b,∀v∈ArgC.e (acS (cSp) (acS (cInt .i64) ac0)) b,v.tupB=false:=by rintro ⟨x0,x1,_⟩ v hv;simp only[Ho,Hn,List.mem_cons,List.not_mem_nil,or_false]at hv;rcases hv with rfl|rfl<;>first|rfl|exact ID _|exact IE _
noncomputable abbrev HR:ArgL (Fa×(Sm)×(Int)×Unit):=amFr (acS (cSp) (acS (cInt .i64) ac0)) nL
abbrev Qr:Prop:=EB Try.prog 99 (HR).args (HR).mem (fun p:(Fa×(Sm)×(Int)×Unit)=>MA p.1 p.2.1 p.2.2.1) (fun p:(Fa×(Sm)×(Int)×Unit)=>Bc p.1 p.2.1 p.2.2.1) (fun p:(Fa×(Sm)×(Int)×Unit)=>Jh p.1 p.2.1 p.2.2.1) (fun p:(Fa×(Sm)×(Int)×Unit)=>Fa.memO (B3 p.1 p.2.1 p.2.2.1)) (fun p:(Fa×(Sm)×(Int)×Unit)=>mlO (Fa.pan (BL p.1 p.2.1 p.2.2.1)))
theorem nM:∀p,(fun p:(Fa×(Sm)×(Int)×Unit)=>MA p.1 p.2.1 p.2.2.1) p→(fun p:(Fa×(Sm)×(Int)×Unit)=>Bc p.1 p.2.1 p.2.2.1) p=false→Di ((HR).mem p).length ((fun p:(Fa×(Sm)×(Int)×Unit)=>Fa.memO (B3 p.1 p.2.1 p.2.2.1)) p)=true∧kdL ((HR).mem p) ((fun p:(Fa×(Sm)×(Int)×Unit)=>Fa.memO (B3 p.1 p.2.1 p.2.2.1)) p)=true∧EM ((fun p:(Fa×(Sm)×(Int)×Unit)=>Fa.memO (B3 p.1 p.2.1 p.2.2.1)) p) ((fun p:(Fa×(Sm)×(Int)×Unit)=>Jh p.1 p.2.1 p.2.2.1) p)∧∀q,some q∈(fun p:(Fa×(Sm)×(Int)×Unit)=>Fa.memO (B3 p.1 p.2.1 p.2.2.1)) p→DS ((fun p:(Fa×(Sm)×(Int)×Unit)=>Fa.memO (B3 p.1 p.2.1 p.2.2.1)) p).length q:=fun p _ _=>have h:=DU p.1 (B3 p.1 p.2.1 p.2.2.1);⟨h.1,h.2.1,rfl,h.2.2⟩
theorem nN:∀p,(fun p:(Fa×(Sm)×(Int)×Unit)=>MA p.1 p.2.1 p.2.2.1) p→(fun p:(Fa×(Sm)×(Int)×Unit)=>Bc p.1 p.2.1 p.2.2.1) p=true→((fun p:(Fa×(Sm)×(Int)×Unit)=>mlO (Fa.pan (BL p.1 p.2.1 p.2.2.1))) p).length=((HR).mem p).length∧kdL ((HR).mem p) ((fun p:(Fa×(Sm)×(Int)×Unit)=>mlO (Fa.pan (BL p.1 p.2.1 p.2.2.1))) p)=true∧∀q,some q∈(fun p:(Fa×(Sm)×(Int)×Unit)=>mlO (Fa.pan (BL p.1 p.2.1 p.2.2.1))) p→DS ((fun p:(Fa×(Sm)×(Int)×Unit)=>mlO (Fa.pan (BL p.1 p.2.1 p.2.2.1))) p).length q:=fun p _ _=>Hx p.1 (BL p.1 p.2.1 p.2.2.1)
theorem nO:∀p,(fun p:(Fa×(Sm)×(Int)×Unit)=>MA p.1 p.2.1 p.2.2.1) p→(fun p:(Fa×(Sm)×(Int)×Unit)=>Bc p.1 p.2.1 p.2.2.1) p=true→Di ((HR).mem p).length ((fun p:(Fa×(Sm)×(Int)×Unit)=>Fa.memO (B3 p.1 p.2.1 p.2.2.1)) p)=true∧EM ((fun p:(Fa×(Sm)×(Int)×Unit)=>Fa.memO (B3 p.1 p.2.1 p.2.2.1)) p) ((fun p:(Fa×(Sm)×(Int)×Unit)=>Jh p.1 p.2.1 p.2.2.1) p):=fun p _ _=>⟨(DU p.1 (B3 p.1 p.2.1 p.2.2.1)).1,rfl⟩
noncomputable def Tu {X:Ctx} {w0:World} (h:Qr):Sy.Spec Try.prog X w0:=Dt 99 Try.call99 (HR) (fun p:(Fa×(Sm)×(Int)×Unit)=>MA p.1 p.2.1 p.2.2.1) (fun p:(Fa×(Sm)×(Int)×Unit)=>Bc p.1 p.2.1 p.2.2.1) (fun p:(Fa×(Sm)×(Int)×Unit)=>Jh p.1 p.2.1 p.2.2.1) (fun p:(Fa×(Sm)×(Int)×Unit)=>Fa.memO (B3 p.1 p.2.1 p.2.2.1)) (fun p:(Fa×(Sm)×(Int)×Unit)=>mlO (Fa.pan (BL p.1 p.2.1 p.2.2.1))) (nM) (nN) (nO) (fun _=>rfl) h
theorem Cb {X:Ctx} {w0:World} (h:Qr):(Tu (X:=X) (w0:=w0) h).f=99:=rfl
theorem Ce {X:Ctx} {w0:World} (h:Qr) (t:Nat) (args:List SV) (H:Hp):(Tu (X:=X) (w0:=w0) h).fn t args H=spL X ((HR).d H args) t H (fun p:(Fa×(Sm)×(Int)×Unit)=>MA p.1 p.2.1 p.2.2.1) (fun p:(Fa×(Sm)×(Int)×Unit)=>Bc p.1 p.2.1 p.2.2.1) (fun p:(Fa×(Sm)×(Int)×Unit)=>Jh p.1 p.2.1 p.2.2.1) (fun p:(Fa×(Sm)×(Int)×Unit)=>Fa.memO (B3 p.1 p.2.1 p.2.2.1)) (fun p:(Fa×(Sm)×(Int)×Unit)=>mlO (Fa.pan (BL p.1 p.2.1 p.2.2.1))):=rfl
theorem uV:Qr:=by
 rintro ⟨q,s,kd,_u⟩ w M I lab fz xs hc hA hl hx
 refine Cj Try.func99 rfl (Fa.mem q) w M I lab fz (Bc q s kd) (Fa.pan (BL q s kd)) (Fa.memO (B3 q s kd)) [Gr] [] ((HR).args ⟨q,s,kd,_u⟩) (Jh q s kd) xs hA hl hx (GM _ _ _ _) (jN rfl) (Nat.le_refl _) rfl (Hy _) ?_
 clear hx hl hA xs
 simp only[Try.f99]
 obtain⟨k0,x,y,e,f,cd,ar,th,el,no⟩:=s
 simp only[↓eB,seval,go_sem,Fm,Fo,Fp,Fl,Hf,Hg,E4,E5,Hh,Gg,Hi,Fu,Fa.mem,Fa.memO,Fa.pan,frC,lmH,lmO,chL,ML.ch,Dl,Dm,EZ,CT,Ee,nmX,xt,EA,ML.ren,rnC,EX,Fb,vrQ,FR,FS,EY,Dj,Dk,EC,Db,DW,fcN,K0,K1,BM,BD,BN,BO,BG,BP,Cv,Cw,IF,IG,↓A1,Gc,Sm.k,Sm.x,Sm.y,Sm.e,Sm.f,Sm.cd,Sm.ar,Sm.th,Sm.el,Sm.no,AA,AB,AK,Gj,Gk,FO,mcC,mcW,Ds,FP,F8,F9,FB,Ms.brk,Ms.exh,Ms.spd,Gr,F3,Dn,Bc,BL,B3]
 try simp only[A3,A4]
 repeat' first|exact ck|with_reducible apply And.intro|intro _
 all_goals first|exact trivial|(rename_i h;first|exact oI h|exact nah h)|(rename_i _ h _ g;exact sL h g)|decide|omega|(refine A0 [] ?_;simp only[↓eB,seval,go_sem,bne,Jh,Bc,B3,BL,A6,Fm,Fo,Fp,Fl,Hf,Hg,E4,E5,Hh,Gg,Hi,Fu,Fa.mem,Fa.memO,Fa.pan,frC,lmH,lmO,chL,ML.ch,Dl,Dm,EZ,CT,Ee,nmX,xt,EA,ML.ren,rnC,EX,Fb,vrQ,FR,FS,EY,Dj,Dk,EC,Db,DW,fcN,K0,K1,BM,BD,BN,BO,BG,BP,Cv,Cw,IF,IG,↓A1,Gc,Sm.k,Sm.x,Sm.y,Sm.e,Sm.f,Sm.cd,Sm.ar,Sm.th,Sm.el,Sm.no,AA,AB,AK,Gj,Gk,FO,mcC,mcW,Ds,FP,F8,F9,FB,Ms.brk,Ms.exh,Ms.spd])
noncomputable def Bd {X:Ctx} {w0:World}:Sy.Spec Try.prog X w0:=Tu uV
end Go.Proofs.Ytjnnmindcbgjhaa
