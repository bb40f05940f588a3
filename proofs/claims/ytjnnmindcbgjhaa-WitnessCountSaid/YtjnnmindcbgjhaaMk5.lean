/- The maker's text. No conditions but those in each statement. -/
import Derived.Test.YtjnnmindcbgjhaaMk4
set_option linter.unusedVariables false
set_option linter.unusedSimpArgs false
open List (length_append length_cons length_nil)
namespace Go.Proofs.Ytjnnmindcbgjhaa
open Go Go.Sy Go.RowKit
theorem tI {c:C} {z z':List D} {es es':List (List D)} (h:leC c (.d (.sl z es))) (h':leC c (.d (.sl z' es'))):es=es':=by
 rcases h with rfl|⟨h1,h2⟩
 ·rcases h' with h|⟨h3,h4⟩
  ·simp only[C.d.injEq,D.sl.injEq]at h;exact h.2
  ·cases h3
 ·obtain rfl:=RY h1
  rcases h' with h|⟨h3,h4⟩
  ·cases h
  ·obtain⟨_,he⟩:=Ls h2
   obtain⟨_,he'⟩:=Ls h4
   simp only[C.d.injEq,D.sl.injEq]at he he'
   rw[he.2,he'.2]
noncomputable def cBy:Cod (List Int):=GZ (fun l=>.one (.d (.sl zBy (l.map byD)))) (fun v a b h h'=>by
 cases v with
 |one c=>exact Ay cA (tI h h')
 |agg l=>exact h.elim
 |tup l=>exact h.elim) (fun l=>rfl)
theorem Iy (l:List Int):cBy.e l= .one (.d (.sl zBy (l.map byD))):=rfl
theorem IA (l:List Int):cBy.d (.one (.d (.sl [.v (.int .u8 0)] (l.map byD))))=some l:=Db (e:=fun l:List Int=>.one (.d (.sl zBy (l.map byD)))) (Do _)
theorem HY (l:List Int) (i n:Int):mMk.d [.d (.sl zBy (l.map byD)),.v (.int .i64 i),.v (.int .i64 n)]=some ⟨l,i,n⟩:=HC Yf ⟨l,i,n⟩
def txH (s:Int):List UInt8:=if (s.tmod 4==2)=true then hdS s++[32,123,32,118,97,114,32,97,59,32,118,97,114,32,98,59,32,118,97,114,32,120,59,32,112,116,114,32,113,59,32] else hdS s++[32,123,32,118,97,114,32,97,59,32,118,97,114,32,98,59,32,112,116,114,32,113,59,32]
def m0 (b:List Int):Mk:=⟨b,0,25⟩
def txB (s:Int) (b:List Int):T:=Gf (stT 2 s) (1+nxV 6 (m0 b)).toNat (txH s) (nxM (m0 b))
def txT (s:Int) (b:List Int):List UInt8:=
 (if (nxV 2 (txB s b).2==0)=true then (((txB s b).1++[114,101,116,117,114,110,32])++(An (nxM (txB s b).2)).1)++[59,32] else (txB s b).1)++[125]
theorem lV (s:Int):(txH s).length≤60:=by
 have h1:=Yj (s.tmod 4).toNat
 unfold txH hdS
 split<;>simp only[jL3]<;>omega
def okY (b:List Int):Prop:=b.length≤4294967295∧∀x∈b,0≤x∧x<256
theorem bc6 {c:Int} (h:0≤c):∀k,k≤6→bc c k≤6*c
 |0,_=>by simp only[bc];omega
 |1,_=>by simp only[bc];omega
 |2,_=>by simp only[bc];omega
 |3,_=>by simp only[bc];omega
 |4,_=>by simp only[bc];omega
 |5,_=>by simp only[bc];omega
 |6,_=>by simp only[bc];omega
theorem bn6 {c:Nat}:∀k,k≤6→bn c k≤6*c
 |0,_=>by simp only[bn];omega
 |1,_=>by simp only[bn];omega
 |2,_=>by simp only[bn];omega
 |3,_=>by simp only[bn];omega
 |4,_=>by simp only[bn];omega
 |5,_=>by simp only[bn];omega
 |6,_=>by simp only[bn];omega
abbrev Yp (s:Int) (b:List Int):Prop:=0≤s∧okY b
abbrev Ez (s:Int) (b:List Int):SV:=.one (.v (.string (bs (txT s b))))
noncomputable abbrev UV:ArgC ((Int)×(List Int)×Unit):=(acS (cInt .i64) (acS (cBy) ac0))
abbrev lW:Prop:=CY Try.prog 44 UV (fun p:(Int)×(List Int)×Unit=>Yp p.1 p.2.1) (fun p:(Int)×(List Int)×Unit=>Ez p.1 p.2.1)
theorem lX:∀p:(Int)×(List Int)×Unit,((fun p:(Int)×(List Int)×Unit=>Ez p.1 p.2.1) p).names=[]:=by intro p;first|rfl|exact Ff _|exact H9 _
attribute [local go_sem] Mk.c zBy
set_option maxRecDepth 20000 in set_option maxHeartbeats 16000000 in
theorem tJ:lW:=by
 rintro ⟨s,b,_u⟩ w fz xs hc hfz hl hx
 refine BH Try.func44 rfl w fz [Bk,D6,Ge,(Da 4 (RX 4))] [] UV (fun p:(Int)×(List Int)×Unit=>Ez p.1 p.2.1) _ xs hfz hl hx (jN rfl) ?_
 clear hx hl hfz xs
 simp only[Try.f44]
 obtain⟨g0,g1,g2⟩:=hc
 dsimp only at g0 g1 g2
 have o0:okM (m0 b) 100000:=⟨Int.le_refl _,by show (0:Int)+100000≤4294967296;decide,g2⟩
 have a1:=BZ (okM.mono o0 (by decide))
 have o1:okM (nxM (m0 b)) 99999:=a1.ok (okM.mono o0 (by decide))
 have hv:=D2 (j:=6) o0 (by decide)
 obtain⟨c,hc⟩:∃c:Nat,1+nxV 6 (m0 b)=(c:Int):=⟨(1+nxV 6 (m0 b)).toNat,by omega⟩
 have hc6:c≤6:=by omega
 have hcw:IntKind.i64.wrap (1+nxV 6 (m0 b))=(c:Int):=by rw[hc];exact wrap_i64 (by omega) (by omega)
 have hx:txB s b=Gf (stT 2 s) c (txH s) (nxM (m0 b)):=by unfold txB;rw[hc];rfl
 have hH:=lV s
 have hHd:=Yj (s.tmod 4).toNat
 have hS:stC 2=2594:=by decide
 have hL:=Wl 2 (by decide)
 have em:(⟨b,0,25⟩:Mk)=m0 b:=rfl
 cases e2:(s.tmod 4==2) with
 |true=>
  have hh:txH s=hdS s++[32,123,32,118,97,114,32,97,59,32,118,97,114,32,98,59,32,118,97,114,32,120,59,32,112,116,114,32,113,59,32]:=by unfold txH;rw[if_pos e2]
  simp only[↓eB,seval,go_sem,Bk,D6,Ge,Da,Ej,Ei,Ek,HY,Dh,DF,Dw,Dx,Dy,Dz,E0,E1,E2,E3,E4,tn0,tn1,tn2,Iy,IA,em,hcw,e2]
  refine⟨g0,by unfold hdS;omega,g0,by unfold hdS;omega,⟨okM.mono o0 (by decide),by decide⟩,?_⟩
  refine Aa (Y:=Nat×List UInt8×Mk) (fun y=>y.1≤6∧okM y.2.2 (bc (stC 2) y.1+2)∧y.2.1.length+bn (stL 2) y.1≤6*stL 2+60∧Gf (stT 2 s) y.1 y.2.1 y.2.2=txB s b)
   (fun y=>⟨[(0,true,.one (.v (.int .i64 s))),(5,true,.one (.p 10 0 0)),(6,true,.one (.v (.string (bs y.2.1)))),(7,true,.one (.v (.int .i64 (y.1:Int))))],[(10,.vec 0 zMk [y.2.2.c])]⟩)
   (fun y=>y.1) (c,txH s,nxM (m0 b)) ⟨hc6,okM.mono o1 (by have:=bc6 (c:=stC 2) (by omega) c hc6;dsimp only;omega),by have:=bn6 (c:=stL 2) c hc6;simp only;omega,hx.symm⟩ ?_ ?_
  ·refine A4 [] ?_;simp only[↓eB,seval,go_sem,hh]
  ·rintro ⟨j,acc,q⟩ ⟨h1,h2,h3,h4⟩
   refine Ap [Bk,D6,Ge,Da 4 (RX 4)] [] _ _ _ ?_
   dsimp only at h1 h2 h3 h4
   cases j with
   |zero=>
    simp only[Gf]at h4
    have e0:decide ((0:Int)<((0:Nat):Int))=false:=rfl
    have q2:okM q 2:=okM.mono h2 (by simp only[bc];omega)
    have a3:=BZ (okM.mono q2 (by decide))
    have q3:okM (nxM q) 1:=a3.ok q2
    have l3:=D3 (nxM q)
    simp only[bn]at h3
    cases e3:(nxV 2 q==0) with
    |true=>
     have hr:txT s b=(((acc++[114,101,116,117,114,110,32])++(An (nxM q)).1)++[59,32])++[125]:=by unfold txT;rw[← h4];simp only[e3,if_true]
     simp only[↓eB,seval,go_sem,Bk,D6,Ge,Da,Ej,Ei,Ek,HY,Dh,DF,Dw,Dx,Dy,Dz,E0,E1,E2,E3,E4,tn0,tn1,tn2,Iy,IA,e0,e3]
     try simp only[A2,A3]
     repeat' first|exact ck|with_reducible apply And.intro|intro _
     all_goals first|exact okM.mono q2 (by decide)|exact q3|(simp only[jL3]at *;omega)|(rename_i h;first|exact oI h|exact nah h)|(rename_i _ h _ g;exact sL h g)|decide|omega|(refine A0 [] ?_;simp only[↓eB,seval,go_sem,bne,Ez,hr,Ej,Ei,Ek,HY,Dh,DF,Dw,Dx,Dy,Dz,E0,E1,E2,E3,E4,tn0,tn1,tn2,Iy,IA])
    |false=>
     have hr:txT s b=acc++[125]:=by unfold txT;rw[← h4];simp[e3]
     simp only[↓eB,seval,go_sem,Bk,D6,Ge,Da,Ej,Ei,Ek,HY,Dh,DF,Dw,Dx,Dy,Dz,E0,E1,E2,E3,E4,tn0,tn1,tn2,Iy,IA,e0,e3]
     try simp only[A2,A3]
     repeat' first|exact ck|with_reducible apply And.intro|intro _
     all_goals first|exact okM.mono q2 (by decide)|exact q3|(simp only[jL3]at *;omega)|(rename_i h;first|exact oI h|exact nah h)|(rename_i _ h _ g;exact sL h g)|decide|omega|(refine A0 [] ?_;simp only[↓eB,seval,go_sem,bne,Ez,hr,Ej,Ei,Ek,HY,Dh,DF,Dw,Dx,Dy,Dz,E0,E1,E2,E3,E4,tn0,tn1,tn2,Iy,IA])
   |succ j=>
    simp only[Gf,bc,bn]at h2 h3 h4
    have e0:decide ((0:Int)<((j+1:Nat):Int))=true:=decide_eq_true (by omega)
    have e1:IntKind.i64.wrap (((j+1:Nat):Int)-1)=(j:Int):=by rw[wrap_i64 (by omega) (by omega)];omega
    have hb0:=TO (c:=stC 2) (by omega) j
    have oq:okM q (stC 2):=okM.mono h2 (by omega)
    have a2:=TP 2 (s:=s) oq
    have l2:=Qm 2 s q
    simp only[↓eB,seval,go_sem,Bk,D6,Ge,Da,Ej,Ei,Ek,HY,Dh,DF,Dw,Dx,Dy,Dz,E0,E1,E2,E3,E4,tn0,tn1,tn2,Iy,IA,e0,e1]
    try simp only[A2,A3]
    repeat' first|exact ck|with_reducible apply And.intro|intro _
    all_goals try first|exact oq|(omega)|(rename_i h;first|exact oI h|exact nah h)|(rename_i _ h _ g;exact sL h g)|decide|omega
    refine⟨(j,acc++(stT 2 s q).1,(stT 2 s q).2),⟨by omega,a2.ok (okM.mono h2 (by dsimp only;omega)),by simp only[length_append];omega,h4⟩,Nat.lt_succ_self _,A4 [] ?_⟩
    simp only[↓eB,seval,go_sem]
 |false=>
  have hh:txH s=hdS s++[32,123,32,118,97,114,32,97,59,32,118,97,114,32,98,59,32,112,116,114,32,113,59,32]:=by unfold txH;rw[if_neg (by rw[e2];decide)]
  simp only[↓eB,seval,go_sem,Bk,D6,Ge,Da,Ej,Ei,Ek,HY,Dh,DF,Dw,Dx,Dy,Dz,E0,E1,E2,E3,E4,tn0,tn1,tn2,Iy,IA,em,hcw,e2]
  refine⟨g0,by unfold hdS;omega,⟨okM.mono o0 (by decide),by decide⟩,?_⟩
  refine Aa (Y:=Nat×List UInt8×Mk) (fun y=>y.1≤6∧okM y.2.2 (bc (stC 2) y.1+2)∧y.2.1.length+bn (stL 2) y.1≤6*stL 2+60∧Gf (stT 2 s) y.1 y.2.1 y.2.2=txB s b)
   (fun y=>⟨[(0,true,.one (.v (.int .i64 s))),(5,true,.one (.p 10 0 0)),(6,true,.one (.v (.string (bs y.2.1)))),(7,true,.one (.v (.int .i64 (y.1:Int))))],[(10,.vec 0 zMk [y.2.2.c])]⟩)
   (fun y=>y.1) (c,txH s,nxM (m0 b)) ⟨hc6,okM.mono o1 (by have:=bc6 (c:=stC 2) (by omega) c hc6;dsimp only;omega),by have:=bn6 (c:=stL 2) c hc6;simp only;omega,hx.symm⟩ ?_ ?_
  ·refine A4 [] ?_;simp only[↓eB,seval,go_sem,hh]
  ·rintro ⟨j,acc,q⟩ ⟨h1,h2,h3,h4⟩
   refine Ap [Bk,D6,Ge,Da 4 (RX 4)] [] _ _ _ ?_
   dsimp only at h1 h2 h3 h4
   cases j with
   |zero=>
    simp only[Gf]at h4
    have e0:decide ((0:Int)<((0:Nat):Int))=false:=rfl
    have q2:okM q 2:=okM.mono h2 (by simp only[bc];omega)
    have a3:=BZ (okM.mono q2 (by decide))
    have q3:okM (nxM q) 1:=a3.ok q2
    have l3:=D3 (nxM q)
    simp only[bn]at h3
    cases e3:(nxV 2 q==0) with
    |true=>
     have hr:txT s b=(((acc++[114,101,116,117,114,110,32])++(An (nxM q)).1)++[59,32])++[125]:=by unfold txT;rw[← h4];simp only[e3,if_true]
     simp only[↓eB,seval,go_sem,Bk,D6,Ge,Da,Ej,Ei,Ek,HY,Dh,DF,Dw,Dx,Dy,Dz,E0,E1,E2,E3,E4,tn0,tn1,tn2,Iy,IA,e0,e3]
     try simp only[A2,A3]
     repeat' first|exact ck|with_reducible apply And.intro|intro _
     all_goals first|exact okM.mono q2 (by decide)|exact q3|(simp only[jL3]at *;omega)|(rename_i h;first|exact oI h|exact nah h)|(rename_i _ h _ g;exact sL h g)|decide|omega|(refine A0 [] ?_;simp only[↓eB,seval,go_sem,bne,Ez,hr,Ej,Ei,Ek,HY,Dh,DF,Dw,Dx,Dy,Dz,E0,E1,E2,E3,E4,tn0,tn1,tn2,Iy,IA])
    |false=>
     have hr:txT s b=acc++[125]:=by unfold txT;rw[← h4];simp[e3]
     simp only[↓eB,seval,go_sem,Bk,D6,Ge,Da,Ej,Ei,Ek,HY,Dh,DF,Dw,Dx,Dy,Dz,E0,E1,E2,E3,E4,tn0,tn1,tn2,Iy,IA,e0,e3]
     try simp only[A2,A3]
     repeat' first|exact ck|with_reducible apply And.intro|intro _
     all_goals first|exact okM.mono q2 (by decide)|exact q3|(simp only[jL3]at *;omega)|(rename_i h;first|exact oI h|exact nah h)|(rename_i _ h _ g;exact sL h g)|decide|omega|(refine A0 [] ?_;simp only[↓eB,seval,go_sem,bne,Ez,hr,Ej,Ei,Ek,HY,Dh,DF,Dw,Dx,Dy,Dz,E0,E1,E2,E3,E4,tn0,tn1,tn2,Iy,IA])
   |succ j=>
    simp only[Gf,bc,bn]at h2 h3 h4
    have e0:decide ((0:Int)<((j+1:Nat):Int))=true:=decide_eq_true (by omega)
    have e1:IntKind.i64.wrap (((j+1:Nat):Int)-1)=(j:Int):=by rw[wrap_i64 (by omega) (by omega)];omega
    have hb0:=TO (c:=stC 2) (by omega) j
    have oq:okM q (stC 2):=okM.mono h2 (by omega)
    have a2:=TP 2 (s:=s) oq
    have l2:=Qm 2 s q
    simp only[↓eB,seval,go_sem,Bk,D6,Ge,Da,Ej,Ei,Ek,HY,Dh,DF,Dw,Dx,Dy,Dz,E0,E1,E2,E3,E4,tn0,tn1,tn2,Iy,IA,e0,e1]
    try simp only[A2,A3]
    repeat' first|exact ck|with_reducible apply And.intro|intro _
    all_goals try first|exact oq|(omega)|(rename_i h;first|exact oI h|exact nah h)|(rename_i _ h _ g;exact sL h g)|decide|omega
    refine⟨(j,acc++(stT 2 s q).1,(stT 2 s q).2),⟨by omega,a2.ok (okM.mono h2 (by dsimp only;omega)),by simp only[length_append];omega,h4⟩,Nat.lt_succ_self _,A4 [] ?_⟩
    simp only[↓eB,seval,go_sem]
noncomputable def K2 {X:Ctx} {w0:World}:Sy.Spec Try.prog X w0:=D5 44 Try.call44 UV (fun p:(Int)×(List Int)×Unit=>Yp p.1 p.2.1) (fun p:(Int)×(List Int)×Unit=>Ez p.1 p.2.1) lX tJ
end Go.Proofs.Ytjnnmindcbgjhaa
