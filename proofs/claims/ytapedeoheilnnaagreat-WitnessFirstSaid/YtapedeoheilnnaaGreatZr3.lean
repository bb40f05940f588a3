/- The document's machine: its own methods, walked. Conditions: how many cells and arrays there are. -/
import Derived.Test.YtapedeoheilnnaaGreatZr2
import Derived.Test.YtapedeoheilnnaaGreatRm7
set_option linter.all false
set_option maxRecDepth 20000
set_option maxHeartbeats 8000000
namespace Go.Proofs.YtapedeoheilnnaaGreat
open Go Go.Sy Go.RowKit
theorem N4{P:Prop}(h:P:=by refine A2 [] ?_;simp only[seval,go_sem]):P:=h
theorem uw{P:Prop}(h:P:=by
 repeat refine AX ?_
 refine A1 [] ?_;simp only[seval,go_sem,bne,C8,C9,hs,Ms.on,h1,Int.reduceBEq]):P:=h
variable{m:Ms}
theorem A2K{l:List Nb}{i:Nat}{x:Nb}(h:l[i]?=some x)(z:List C):(l.map Nb.c).getD i z=[.v (.string (bs x.s)),.v (.int .i64 x.n)]:=by simp[List.getD,h,Nb.c]
theorem A2L{l:List Na}{i:Nat}{x:Na}(h:l[i]?=some x)(z:List C):(l.map Na.c).getD i z=[.v (.string (bs x.s)),.ov zI (x.l.map cI)]:=by simp[List.getD,h,Na.c]
theorem Om(h:m.on=true):(m.e != 0)=false:=by unfold bne;rw[show (m.e==0)=true from h];rfl
theorem On(h:m.on=false):(m.e != 0)=true:=by unfold bne;rw[show (m.e==0)=false from h];rfl
theorem sD{nm:List UInt8}{al k:Int}(h:m.on=true):m.zfail nm al k={ m with e:=2,f:=nm,al:=al,k:=k }:=if_pos h
theorem lw{nm:List UInt8}{al k:Int}(h:m.on=false):m.zfail nm al k=m:=if_neg (by rw[h];decide)
abbrev pw(p:Pg×Ms)(f:Fn)(al:Int)(kd:Int):Prop:=True
abbrev Rs(p:Pg×Ms)(f:Fn)(al:Int)(kd:Int):SV:=.tup []
abbrev Ag(p:Pg×Ms)(f:Fn)(al:Int)(kd:Int):List (Option MV):=[some (rzW p.1 (p.2.zfail f.name al kd))]
noncomputable abbrev M4:ArgM ((Pg×Ms)×(Fn)×(Int)×(Int)×Unit):=(amP (mRz) (amD (cFn) (amD (cInt .i64) (amD (cInt .i64) am0))))
abbrev px:Prop:=C7 Tryz.prog 92 ((M4).args 0) (M4).mem (λp:(Pg×Ms)×(Fn)×(Int)×(Int)×Unit=>pw p.1 p.2.1 p.2.2.1 p.2.2.2.1) (λp:(Pg×Ms)×(Fn)×(Int)×(Int)×Unit=>Rs p.1 p.2.1 p.2.2.1 p.2.2.2.1) (λp:(Pg×Ms)×(Fn)×(Int)×(Int)×Unit=>Ag p.1 p.2.1 p.2.2.1 p.2.2.2.1)
attribute [local go_sem] Fn.c A9 A8 AM Lb ND NE EQ Dz rzC rzW
theorem xQ:px:=by
 rintro ⟨p,f,al,kd,_u⟩ w M I lab fz xs hc hA hl hx
 refine Ac Tryz.func92 rfl ((M4).mem ⟨p,f,al,kd,_u⟩) w M I lab fz [] [] ((M4).args 0 ⟨p,f,al,kd,_u⟩) ((λp:(Pg×Ms)×(Fn)×(Int)×(Int)×Unit=>Ag p.1 p.2.1 p.2.2.1 p.2.2.2.1) ⟨p,f,al,kd,_u⟩) ((λp:(Pg×Ms)×(Fn)×(Int)×(Int)×Unit=>Rs p.1 p.2.1 p.2.2.1 p.2.2.2.1) ⟨p,f,al,kd,_u⟩) xs hA hl hx (λv hv k hk=>by have:=(M4).an 0 ⟨p,f,al,kd,_u⟩ v hv k hk;omega) (jN rfl) (jN rfl) ?_
 clear hx hl hA xs
 simp only[Tryz.f92]
 obtain⟨P,m⟩:=p
 obtain⟨fn,fp,fl,fb⟩:=f
 cases h:m.on with
 |true=>
  have h1:(m.e==0)=true:=h
  have h2:=sD (nm:=fn) (al:=al) (k:=kd) h
  simp only[seval,go_sem,h1]
  repeat refine AX ?_
  refine A1 [] ?_;simp only[seval,go_sem,bne,Rs,Ag,h2]
 |false=>
 have h1:(m.e==0)=false:=h
 have h2:=lw (nm:=fn) (al:=al) (k:=kd) h
 simp only[seval,go_sem,h1]
 repeat refine AX ?_
 refine A1 [] ?_;simp only[seval,go_sem,bne,Rs,Ag,h2]
theorem nw{p:Prop}(h:p:=by intro p _;exact A2C _ _):p:=h
noncomputable def AU{X:Ctx}{w0:World}:Sy.Spec Tryz.prog X w0:=D0 92 Tryz.call92 (M4) _ _ _ KF1 KF0 nw xQ
abbrev cA(p:Pg×Ms)(s:List UInt8):Prop:=p.2.cs.length<=1000000
abbrev BN(p:Pg×Ms)(s:List UInt8):SV:=.one (.v (.int .i64 (p.2.cx s)))
abbrev BO(p:Pg×Ms)(s:List UInt8):List (Option MV):=[some (rzW p.1 p.2)]
noncomputable abbrev M5:ArgM ((Pg×Ms)×(List UInt8)×Unit):=(amP (mRz) (amD (cStr) am0))
abbrev py:Prop:=C7 Tryz.prog 35 ((M5).args 0) (M5).mem (λp:(Pg×Ms)×(List UInt8)×Unit=>cA p.1 p.2.1) (λp:(Pg×Ms)×(List UInt8)×Unit=>BN p.1 p.2.1) (λp:(Pg×Ms)×(List UInt8)×Unit=>BO p.1 p.2.1)
theorem xS:py:=by
 rintro ⟨p,s,_u⟩ w M I lab fz xs hc hA hl hx
 refine Ac Tryz.func35 rfl ((M5).mem ⟨p,s,_u⟩) w M I lab fz [] [] ((M5).args 0 ⟨p,s,_u⟩) ((λp:(Pg×Ms)×(List UInt8)×Unit=>BO p.1 p.2.1) ⟨p,s,_u⟩) ((λp:(Pg×Ms)×(List UInt8)×Unit=>BN p.1 p.2.1) ⟨p,s,_u⟩) xs hA hl hx (λv hv k hk=>by have:=(M5).an 0 ⟨p,s,_u⟩ v hv k hk;omega) (jN rfl) (jN rfl) ?_
 clear hx hl hA xs
 simp only[Tryz.f35]
 obtain⟨P,m⟩:=p
 have hc:m.cs.length<=1000000:=hc
 simp only[seval,go_sem]
 refine AC (Y:=Nat) (λi=>i<=m.cs.length/\ixN s ((m.cs.map Nb.s).drop i) (i:Int)=m.cx s)
  (λi=>⟨[(0,true,.one (.p 0 0 0)),(1,true,.one (.v (.string (bs s)))),(5,true,.one (.v (.int .i64 (i:Int))))],[(0,.vec 0 zRz [rzC P m])]⟩)
  (λi=>m.cs.length-i) 0 ⟨Nat.zero_le _,rfl⟩ ?_ ?_
 .exact N4
 rintro i ⟨hi,hJ⟩
 refine AP [] [] _ _ _ ?_
 have w1:IntKind.i64.wrap ((i:Int)+1)=((i+1:Nat):Int):=by rw[wrap_i64 (by omega) (by omega)];rfl
 cases hx:m.cs[i]? with
 |none=>
  have h2:=List.getElem?_eq_none_iff.1 hx
  have h1:=Ai h2
  rw[List.drop_eq_nil_of_le (by rw[List.length_map];exact h2)]at hJ
  have hr:m.cx s = -1:=hJ.symm
  simp only[seval,go_sem,h1]
  repeat refine AX ?_
  refine A1 [] ?_;simp only[seval,go_sem,bne,BN,BO,hr]
 |some x=>
 have hlt:=(List.getElem?_eq_some_iff.1 hx).1
 have h1:=Ah hlt
 have h2:=A2K hx
 rw[BF (x:=x.s) (by rw[List.getElem?_map,hx];rfl)]at hJ
 simp only[ixN]at hJ
 cases hq:(x.s==s) with
 |true=>
  rw[if_pos hq]at hJ
  simp only[seval,go_sem,h1,h2,hq]
  repeat refine AX ?_
  refine A1 [] ?_;simp only[seval,go_sem,bne,BN,BO,<- hJ]
 |false=>
 rw[if_neg (by rw[hq];decide)]at hJ
 simp only[seval,go_sem,h1,h2,hq,w1]
 repeat refine AX ?_
 refine⟨i+1,⟨hlt,hJ⟩,by omega,?_⟩
 exact N4
noncomputable def B1{X:Ctx}{w0:World}:Sy.Spec Tryz.prog X w0:=D0 35 Tryz.call35 (M5) _ _ _ KF1 KF0 nw xS
abbrev lx(p:Pg×Ms)(s:List UInt8):Prop:=p.2.ar.length<=1000000
abbrev Jj(p:Pg×Ms)(s:List UInt8):SV:=.one (.v (.int .i64 (p.2.ax s)))
abbrev Jk(p:Pg×Ms)(s:List UInt8):List (Option MV):=[some (rzW p.1 p.2)]
noncomputable abbrev L5:ArgM ((Pg×Ms)×(List UInt8)×Unit):=(amP (mRz) (amD (cStr) am0))
abbrev ly:Prop:=C7 Tryz.prog 114 ((L5).args 0) (L5).mem (λp:(Pg×Ms)×(List UInt8)×Unit=>lx p.1 p.2.1) (λp:(Pg×Ms)×(List UInt8)×Unit=>Jj p.1 p.2.1) (λp:(Pg×Ms)×(List UInt8)×Unit=>Jk p.1 p.2.1)
theorem pz:ly:=by
 rintro ⟨p,s,_u⟩ w M I lab fz xs hc hA hl hx
 refine Ac Tryz.func114 rfl ((L5).mem ⟨p,s,_u⟩) w M I lab fz [] [] ((L5).args 0 ⟨p,s,_u⟩) ((λp:(Pg×Ms)×(List UInt8)×Unit=>Jk p.1 p.2.1) ⟨p,s,_u⟩) ((λp:(Pg×Ms)×(List UInt8)×Unit=>Jj p.1 p.2.1) ⟨p,s,_u⟩) xs hA hl hx (λv hv k hk=>by have:=(L5).an 0 ⟨p,s,_u⟩ v hv k hk;omega) (jN rfl) (jN rfl) ?_
 clear hx hl hA xs
 simp only[Tryz.f114]
 obtain⟨P,m⟩:=p
 have hc:m.ar.length<=1000000:=hc
 simp only[seval,go_sem]
 refine AC (Y:=Nat) (λi=>i<=m.ar.length/\ixN s ((m.ar.map Na.s).drop i) (i:Int)=m.ax s)
  (λi=>⟨[(0,true,.one (.p 0 0 0)),(1,true,.one (.v (.string (bs s)))),(5,true,.one (.v (.int .i64 (i:Int))))],[(0,.vec 0 zRz [rzC P m])]⟩)
  (λi=>m.ar.length-i) 0 ⟨Nat.zero_le _,rfl⟩ ?_ ?_
 .exact N4
 rintro i ⟨hi,hJ⟩
 refine AP [] [] _ _ _ ?_
 have w1:IntKind.i64.wrap ((i:Int)+1)=((i+1:Nat):Int):=by rw[wrap_i64 (by omega) (by omega)];rfl
 cases hx:m.ar[i]? with
 |none=>
  have h2:=List.getElem?_eq_none_iff.1 hx
  have h1:=Ai h2
  rw[List.drop_eq_nil_of_le (by rw[List.length_map];exact h2)]at hJ
  have hr:m.ax s = -1:=hJ.symm
  simp only[seval,go_sem,h1]
  repeat refine AX ?_
  refine A1 [] ?_;simp only[seval,go_sem,bne,Jj,Jk,hr]
 |some x=>
 have hlt:=(List.getElem?_eq_some_iff.1 hx).1
 have h1:=Ah hlt
 have h2:=A2L hx
 rw[BF (x:=x.s) (by rw[List.getElem?_map,hx];rfl)]at hJ
 simp only[ixN]at hJ
 cases hq:(x.s==s) with
 |true=>
  rw[if_pos hq]at hJ
  simp only[seval,go_sem,h1,h2,hq]
  repeat refine AX ?_
  refine A1 [] ?_;simp only[seval,go_sem,bne,Jj,Jk,<- hJ]
 |false=>
 rw[if_neg (by rw[hq];decide)]at hJ
 simp only[seval,go_sem,h1,h2,hq,w1]
 repeat refine AX ?_
 refine⟨i+1,⟨hlt,hJ⟩,by omega,?_⟩
 exact N4
noncomputable def PL{X:Ctx}{w0:World}:Sy.Spec Tryz.prog X w0:=D0 114 Tryz.call114 (L5) _ _ _ KF1 KF0 nw pz
abbrev xT(p:Pg×Ms):Prop:=True
abbrev C8(p:Pg×Ms):SV:=.one (.v (.bool p.2.zspd.on))
abbrev C9(p:Pg×Ms):List (Option MV):=[some (rzW p.1 p.2.zspd)]
noncomputable abbrev Ny:ArgM ((Pg×Ms)×Unit):=(amP (mRz) am0)
abbrev xU:Prop:=C7 Tryz.prog 88 ((Ny).args 0) (Ny).mem (λp:(Pg×Ms)×Unit=>xT p.1) (λp:(Pg×Ms)×Unit=>C8 p.1) (λp:(Pg×Ms)×Unit=>C9 p.1)
theorem A2M:xU:=by
 rintro ⟨p,_u⟩ w M I lab fz xs hc hA hl hx
 refine Ac Tryz.func88 rfl ((Ny).mem ⟨p,_u⟩) w M I lab fz [] [] ((Ny).args 0 ⟨p,_u⟩) ((λp:(Pg×Ms)×Unit=>C9 p.1) ⟨p,_u⟩) ((λp:(Pg×Ms)×Unit=>C8 p.1) ⟨p,_u⟩) xs hA hl hx (λv hv k hk=>by have:=(Ny).an 0 ⟨p,_u⟩ v hv k hk;omega) (jN rfl) (jN rfl) ?_
 clear hx hl hA xs
 simp only[Tryz.f88]
 obtain⟨P,m⟩:=p
 cases h:m.on with
 |true=>
  have h1:(m.e==0)=true:=h
  have h0:m.e=0:=eq_of_beq h1
  cases h2:decide (m.fuel<1) with
  |true=>
   have hs:m.zspd={ m with e:=3,fuel:=w64i (m.fuel-1) }:=by unfold Ms.zspd;rw[if_pos ⟨h,of_decide_eq_true h2⟩]
   have ho:m.zspd.on=false:=by rw[hs];rfl
   simp only[seval,go_sem,h1,h2]
   exact uw
  |false=>
  have hs:m.zspd={ m with fuel:=w64i (m.fuel-1) }:=by unfold Ms.zspd;rw[if_neg (λhh=>of_decide_eq_false h2 hh.2)]
  have ho:m.zspd.on=true:=by rw[hs];exact h
  simp only[seval,go_sem,h1,h2]
  exact uw
 |false=>
 have h1:(m.e==0)=false:=h
 have hs:m.zspd={ m with fuel:=w64i (m.fuel-1) }:=by unfold Ms.zspd;rw[if_neg (λhh=>by rw[h]at hh;exact absurd hh.1 (by decide))]
 have ho:m.zspd.on=false:=by rw[hs];exact h
 simp only[seval,go_sem,h1]
 exact uw
noncomputable def CX{X:Ctx}{w0:World}:Sy.Spec Tryz.prog X w0:=D0 88 Tryz.call88 (Ny) _ _ _ KF1 KF0 nw A2M
end Go.Proofs.YtapedeoheilnnaaGreat
