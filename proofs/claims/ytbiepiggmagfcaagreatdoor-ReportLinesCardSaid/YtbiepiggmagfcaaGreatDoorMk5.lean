/- The maker's text. No conditions but those in each statement. -/
import Derived.Test.YtbiepiggmagfcaaGreatDoorMk4
import Derived.Test.YtbiepiggmagfcaaGreatDoorCx5
import Derived.Test.YtbiepiggmagfcaaGreatDoorRq2
set_option linter.unusedVariables false
set_option linter.unusedSimpArgs false
open List (length_append length_cons length_nil)
namespace Go.Proofs.YtbiepiggmagfcaaGreatDoor
open Go Go.Sy Go.RowKit
theorem wI {c:C} {z z':List D} {es es':List (List D)} (h:leC c (.d (.sl z es))) (h':leC c (.d (.sl z' es'))):es=es':=by
 rcases h with rfl|⟨h1,h2⟩
 ·rcases h' with h|⟨h3,h4⟩
  ·simp only[C.d.injEq,D.sl.injEq]at h;exact h.2
  ·cases h3
 ·obtain rfl:=Qo h1
  rcases h' with h|⟨h3,h4⟩
  ·cases h
  ·obtain⟨_,he⟩:=KA h2
   obtain⟨_,he'⟩:=KA h4
   simp only[C.d.injEq,D.sl.injEq]at he he'
   rw[he.2,he'.2]
noncomputable def cBy:Cod (List Int):=IF (fun l=>.one (.d (.sl zBy (l.map byD)))) (fun v a b h h'=>by
 cases v with
 |one c=>exact Bh ej (wI h h')
 |agg l=>exact h.elim
 |tup l=>exact h.elim) (fun l=>rfl)
theorem bQ (l:List Int):cBy.e l= .one (.d (.sl zBy (l.map byD))):=rfl
theorem bR (l:List Int):cBy.d (.one (.d (.sl [.v (.int .u8 0)] (l.map byD))))=some l:=Df (e:=fun l:List Int=>.one (.d (.sl zBy (l.map byD)))) (ED _)
theorem wJ (l:List Int) (i n:Int):mMk.d [.d (.sl zBy (l.map byD)),.v (.int .i64 i),.v (.int .i64 n)]=some ⟨l,i,n⟩:=Fs Z6 ⟨l,i,n⟩
def txH (s:Int):List UInt8:=if (s.tmod 4==2)=true then hdS s++[32,123,32,118,97,114,32,97,59,32,118,97,114,32,98,59,32,118,97,114,32,120,59,32,112,116,114,32,113,59,32] else hdS s++[32,123,32,118,97,114,32,97,59,32,118,97,114,32,98,59,32,112,116,114,32,113,59,32]
def m0 (b:List Int):Mk:=⟨b,0,25⟩
def txB (s:Int) (b:List Int):T:=blkL (stT 2 s) (1+nxV 6 (m0 b)).toNat (txH s) (nxM (m0 b))
def txT (s:Int) (b:List Int):List UInt8:=
 (if (nxV 2 (txB s b).2==0)=true then (((txB s b).1++[114,101,116,117,114,110,32])++(A6 (nxM (txB s b).2)).1)++[59,32] else (txB s b).1)++[125]
theorem U3 (s:Int):(txH s).length≤60:=by
 have h1:=Z9 (s.tmod 4).toNat
 unfold txH hdS
 split<;>simp only[jL3]<;>omega
def okY (b:List Int):Prop:=b.length≤4294967295∧∀x∈b,0≤x∧x<256
theorem bc6 {c:Int} (h:0≤c):∀k,k≤6→bc c k≤6*c
 |0,_=>by simp only[bc];omega
 |1,_=>by simp only[bc];omega
 |2,_=>by simp only[bc];omega
 |3,_=>by simp only[bc];omega
 |4,_=>by simp only[bc];omega
 |5,_=>by simp only[bc];omega
 |6,_=>by simp only[bc];omega
theorem bn6 {c:Nat}:∀k,k≤6→bn c k≤6*c
 |0,_=>by simp only[bn];omega
 |1,_=>by simp only[bn];omega
 |2,_=>by simp only[bn];omega
 |3,_=>by simp only[bn];omega
 |4,_=>by simp only[bn];omega
 |5,_=>by simp only[bn];omega
 |6,_=>by simp only[bn];omega
abbrev ZF (s:Int) (b:List Int):Prop:=0≤s∧okY b
abbrev HK (s:Int) (b:List Int):SV:=.one (.v (.string (bs (txT s b))))
noncomputable abbrev U4:ArgC ((Int)×(List Int)×Unit):=(acS (cInt .i64) (acS (cBy) ac0))
abbrev pV:Prop:=AP Tryz.prog 11 U4 (fun p:(Int)×(List Int)×Unit=>ZF p.1 p.2.1) (fun p:(Int)×(List Int)×Unit=>HK p.1 p.2.1)
theorem pW:∀p:(Int)×(List Int)×Unit,((fun p:(Int)×(List Int)×Unit=>HK p.1 p.2.1) p).names=[]:=by intro p;first|rfl|exact B8 _|exact BN _
attribute [local go_sem] Mk.c bR bQ P3 P2 P6 P7 P0 SH wJ SG SF Oz P8 P4 Mt P1 tn0 tn1 tn2 P5 Ed QL F3 Bv zBy
set_option maxRecDepth 20000 in set_option maxHeartbeats 16000000 in
theorem wK:pV:=by
 rintro ⟨s,b,_u⟩ w fz xs hc hfz hl hx
 refine A9 Tryz.func11 rfl w fz [Bv,F3,QL,(Ed 4 (QN 4))] [] U4 (fun p:(Int)×(List Int)×Unit=>HK p.1 p.2.1) _ xs hfz hl hx (jN rfl) ?_
 clear hx hl hfz xs
 simp only[Tryz.f11]
 obtain⟨g0,g1,g2⟩:=hc
 dsimp only at g0 g1 g2
 have o0:okM (m0 b) 100000:=⟨Int.le_refl _,by show (0:Int)+100000≤4294967296;decide,g2⟩
 have a1:=Aq (okM.mono o0 (by decide))
 have o1:okM (nxM (m0 b)) 99999:=a1.ok (okM.mono o0 (by decide))
 have hv:=Bu (j:=6) o0 (by decide)
 obtain⟨c,hc⟩:∃c:Nat,1+nxV 6 (m0 b)=(c:Int):=⟨(1+nxV 6 (m0 b)).toNat,by omega⟩
 have hc6:c≤6:=by omega
 have hcw:IntKind.i64.wrap (1+nxV 6 (m0 b))=(c:Int):=by rw[hc];exact wrap_i64 (by omega) (by omega)
 have hx:txB s b=blkL (stT 2 s) c (txH s) (nxM (m0 b)):=by unfold txB;rw[hc];rfl
 have hH:=U3 s
 have hHd:=Z9 (s.tmod 4).toNat
 have hS:stC 2=2594:=by decide
 have hL:=SO 2 (by decide)
 have em:(⟨b,0,25⟩:Mk)=m0 b:=rfl
 cases e2:(s.tmod 4==2) with
 |true=>
  have hh:txH s=hdS s++[32,123,32,118,97,114,32,97,59,32,118,97,114,32,98,59,32,118,97,114,32,120,59,32,112,116,114,32,113,59,32]:=by unfold txH;rw[if_pos e2]
  simp only[↓eB,seval,go_sem,em,hcw,e2]
  refine⟨g0,by unfold hdS;omega,g0,by unfold hdS;omega,⟨okM.mono o0 (by decide),by decide⟩,?_⟩
  refine AH (Y:=Nat×List UInt8×Mk) (fun y=>y.1≤6∧okM y.2.2 (bc (stC 2) y.1+2)∧y.2.1.length+bn (stL 2) y.1≤6*stL 2+60∧blkL (stT 2 s) y.1 y.2.1 y.2.2=txB s b)
   (fun y=>⟨[(0,true,.one (.v (.int .i64 s))),(5,true,.one (.p 10 0 0)),(6,true,.one (.v (.string (bs y.2.1)))),(7,true,.one (.v (.int .i64 (y.1:Int))))],[(10,.vec 0 zMk [y.2.2.c])]⟩)
   (fun y=>y.1) (c,txH s,nxM (m0 b)) ⟨hc6,okM.mono o1 (by have:=bc6 (c:=stC 2) (by omega) c hc6;dsimp only;omega),by have:=bn6 (c:=stL 2) c hc6;simp only;omega,hx.symm⟩ ?_ ?_
  ·refine A4 [] ?_;simp only[↓eB,seval,go_sem,hh]
  ·rintro ⟨j,acc,q⟩ ⟨h1,h2,h3,h4⟩
   refine Ab [Bv,F3,QL,Ed 4 (QN 4)] [] _ _ _ ?_
   dsimp only at h1 h2 h3 h4
   cases j with
   |zero=>
    simp only[blkL]at h4
    have e0:decide ((0:Int)<((0:Nat):Int))=false:=rfl
    have q2:okM q 2:=okM.mono h2 (by simp only[bc];omega)
    have a3:=Aq (okM.mono q2 (by decide))
    have q3:okM (nxM q) 1:=a3.ok q2
    have l3:=Bp (nxM q)
    simp only[bn]at h3
    cases e3:(nxV 2 q==0) with
    |true=>
     have hr:txT s b=(((acc++[114,101,116,117,114,110,32])++(A6 (nxM q)).1)++[59,32])++[125]:=by unfold txT;rw[← h4];simp only[e3,if_true]
     simp only[↓eB,seval,go_sem,e0,e3]
     try simp only[A1,A2]
     repeat' first|exact ck|with_reducible apply And.intro|intro _
     all_goals first|exact okM.mono q2 (by decide)|exact q3|(simp only[jL3]at *;omega)|(rename_i h;first|exact oI h|exact nah h)|(rename_i _ h _ g;exact sL h g)|decide|omega|(refine A0 [] ?_;simp only[↓eB,seval,go_sem,bne,HK,hr])
    |false=>
     have hr:txT s b=acc++[125]:=by unfold txT;rw[← h4];simp[e3]
     simp only[↓eB,seval,go_sem,e0,e3]
     try simp only[A1,A2]
     repeat' first|exact ck|with_reducible apply And.intro|intro _
     all_goals first|exact okM.mono q2 (by decide)|exact q3|(simp only[jL3]at *;omega)|(rename_i h;first|exact oI h|exact nah h)|(rename_i _ h _ g;exact sL h g)|decide|omega|(refine A0 [] ?_;simp only[↓eB,seval,go_sem,bne,HK,hr])
   |succ j=>
    simp only[blkL,bc,bn]at h2 h3 h4
    have e0:decide ((0:Int)<((j+1:Nat):Int))=true:=decide_eq_true (by omega)
    have e1:IntKind.i64.wrap (((j+1:Nat):Int)-1)=(j:Int):=by rw[wrap_i64 (by omega) (by omega)];omega
    have hb0:=SN (c:=stC 2) (by omega) j
    have oq:okM q (stC 2):=okM.mono h2 (by omega)
    have a2:=SP 2 (s:=s) oq
    have l2:=N4 2 s q
    simp only[↓eB,seval,go_sem,e0,e1]
    try simp only[A1,A2]
    repeat' first|exact ck|with_reducible apply And.intro|intro _
    all_goals try first|exact oq|(omega)|(rename_i h;first|exact oI h|exact nah h)|(rename_i _ h _ g;exact sL h g)|decide|omega
    refine⟨(j,acc++(stT 2 s q).1,(stT 2 s q).2),⟨by omega,a2.ok (okM.mono h2 (by dsimp only;omega)),by simp only[length_append];omega,h4⟩,Nat.lt_succ_self _,A4 [] ?_⟩
    simp only[↓eB,seval,go_sem]
 |false=>
  have hh:txH s=hdS s++[32,123,32,118,97,114,32,97,59,32,118,97,114,32,98,59,32,112,116,114,32,113,59,32]:=by unfold txH;rw[if_neg (by rw[e2];decide)]
  simp only[↓eB,seval,go_sem,em,hcw,e2]
  refine⟨g0,by unfold hdS;omega,⟨okM.mono o0 (by decide),by decide⟩,?_⟩
  refine AH (Y:=Nat×List UInt8×Mk) (fun y=>y.1≤6∧okM y.2.2 (bc (stC 2) y.1+2)∧y.2.1.length+bn (stL 2) y.1≤6*stL 2+60∧blkL (stT 2 s) y.1 y.2.1 y.2.2=txB s b)
   (fun y=>⟨[(0,true,.one (.v (.int .i64 s))),(5,true,.one (.p 10 0 0)),(6,true,.one (.v (.string (bs y.2.1)))),(7,true,.one (.v (.int .i64 (y.1:Int))))],[(10,.vec 0 zMk [y.2.2.c])]⟩)
   (fun y=>y.1) (c,txH s,nxM (m0 b)) ⟨hc6,okM.mono o1 (by have:=bc6 (c:=stC 2) (by omega) c hc6;dsimp only;omega),by have:=bn6 (c:=stL 2) c hc6;simp only;omega,hx.symm⟩ ?_ ?_
  ·refine A4 [] ?_;simp only[↓eB,seval,go_sem,hh]
  ·rintro ⟨j,acc,q⟩ ⟨h1,h2,h3,h4⟩
   refine Ab [Bv,F3,QL,Ed 4 (QN 4)] [] _ _ _ ?_
   dsimp only at h1 h2 h3 h4
   cases j with
   |zero=>
    simp only[blkL]at h4
    have e0:decide ((0:Int)<((0:Nat):Int))=false:=rfl
    have q2:okM q 2:=okM.mono h2 (by simp only[bc];omega)
    have a3:=Aq (okM.mono q2 (by decide))
    have q3:okM (nxM q) 1:=a3.ok q2
    have l3:=Bp (nxM q)
    simp only[bn]at h3
    cases e3:(nxV 2 q==0) with
    |true=>
     have hr:txT s b=(((acc++[114,101,116,117,114,110,32])++(A6 (nxM q)).1)++[59,32])++[125]:=by unfold txT;rw[← h4];simp only[e3,if_true]
     simp only[↓eB,seval,go_sem,e0,e3]
     try simp only[A1,A2]
     repeat' first|exact ck|with_reducible apply And.intro|intro _
     all_goals first|exact okM.mono q2 (by decide)|exact q3|(simp only[jL3]at *;omega)|(rename_i h;first|exact oI h|exact nah h)|(rename_i _ h _ g;exact sL h g)|decide|omega|(refine A0 [] ?_;simp only[↓eB,seval,go_sem,bne,HK,hr])
    |false=>
     have hr:txT s b=acc++[125]:=by unfold txT;rw[← h4];simp[e3]
     simp only[↓eB,seval,go_sem,e0,e3]
     try simp only[A1,A2]
     repeat' first|exact ck|with_reducible apply And.intro|intro _
     all_goals first|exact okM.mono q2 (by decide)|exact q3|(simp only[jL3]at *;omega)|(rename_i h;first|exact oI h|exact nah h)|(rename_i _ h _ g;exact sL h g)|decide|omega|(refine A0 [] ?_;simp only[↓eB,seval,go_sem,bne,HK,hr])
   |succ j=>
    simp only[blkL,bc,bn]at h2 h3 h4
    have e0:decide ((0:Int)<((j+1:Nat):Int))=true:=decide_eq_true (by omega)
    have e1:IntKind.i64.wrap (((j+1:Nat):Int)-1)=(j:Int):=by rw[wrap_i64 (by omega) (by omega)];omega
    have hb0:=SN (c:=stC 2) (by omega) j
    have oq:okM q (stC 2):=okM.mono h2 (by omega)
    have a2:=SP 2 (s:=s) oq
    have l2:=N4 2 s q
    simp only[↓eB,seval,go_sem,e0,e1]
    try simp only[A1,A2]
    repeat' first|exact ck|with_reducible apply And.intro|intro _
    all_goals try first|exact oq|(omega)|(rename_i h;first|exact oI h|exact nah h)|(rename_i _ h _ g;exact sL h g)|decide|omega
    refine⟨(j,acc++(stT 2 s q).1,(stT 2 s q).2),⟨by omega,a2.ok (okM.mono h2 (by dsimp only;omega)),by simp only[length_append];omega,h4⟩,Nat.lt_succ_self _,A4 [] ?_⟩
    simp only[↓eB,seval,go_sem]
noncomputable def ZG {X:Ctx} {w0:World}:Sy.Spec Tryz.prog X w0:=Am 11 Tryz.call11 U4 (fun p:(Int)×(List Int)×Unit=>ZF p.1 p.2.1) (fun p:(Int)×(List Int)×Unit=>HK p.1 p.2.1) pW wK
end Go.Proofs.YtbiepiggmagfcaaGreatDoor
namespace Go.Proofs.YtbiepiggmagfcaaGreatDoor
open Go Go.Sy Go.RowKit
theorem FC:Lw [32,61,32] [(2,[61])]:=Lp.of (n:=3) (fun i=>[⟨2,[61],((i+1:Nat):Int)⟩]) (by decide) (fun _=>rfl) (fun f i r out=>by kernel_rfl)
theorem JY:Lw [59,32] [(2,[59])]:=Lp.of (n:=2) (fun i=>[⟨2,[59],((i+0:Nat):Int)⟩]) (by decide) (fun _=>rfl) (fun f i r out=>by kernel_rfl)
theorem A2J:Lw [93,59,32] [(2,[93]),(2,[59])]:=Lp.of (n:=3) (fun i=>[⟨2,[93],((i+0:Nat):Int)⟩,⟨2,[59],((i+1:Nat):Int)⟩]) (by decide) (fun _=>rfl) (fun f i r out=>by kernel_rfl)
theorem ml:Lw [93,32,61,32] [(2,[93]),(2,[61])]:=Lp.of (n:=4) (fun i=>[⟨2,[93],((i+0:Nat):Int)⟩,⟨2,[61],((i+2:Nat):Int)⟩]) (by decide) (fun _=>rfl) (fun f i r out=>by kernel_rfl)
theorem bS:Lw [41,59,32] [(2,[41]),(2,[59])]:=Lp.of (n:=3) (fun i=>[⟨2,[41],((i+0:Nat):Int)⟩,⟨2,[59],((i+1:Nat):Int)⟩]) (by decide) (fun _=>rfl) (fun f i r out=>by kernel_rfl)
theorem W9:Lw [114,101,116,117,114,110,32] [(0,[114,101,116,117,114,110])]:=Lp.of (n:=2) (fun i=>[⟨0,[114,101,116,117,114,110],((i+0:Nat):Int)⟩]) (by decide) (fun _=>rfl) (fun f i r out=>by kernel_rfl)
theorem A2K:Lw [123,32] [(2,[123])]:=Lp.of (n:=2) (fun i=>[⟨2,[123],((i+0:Nat):Int)⟩]) (by decide) (fun _=>rfl) (fun f i r out=>by kernel_rfl)
theorem A2L:Lw [125,32] [(2,[125])]:=Lp.of (n:=2) (fun i=>[⟨2,[125],((i+0:Nat):Int)⟩]) (by decide) (fun _=>rfl) (fun f i r out=>by kernel_rfl)
theorem A2M:Lw [101,108,115,101,32] [(0,[101,108,115,101])]:=Lp.of (n:=2) (fun i=>[⟨0,[101,108,115,101],((i+0:Nat):Int)⟩]) (by decide) (fun _=>rfl) (fun f i r out=>by kernel_rfl)
theorem A2N:Lw [41,32,45,32] [(2,[41]),(2,[45])]:=Lp.of (n:=4) (fun i=>[⟨2,[41],((i+0:Nat):Int)⟩,⟨2,[45],((i+2:Nat):Int)⟩]) (by decide) (fun _=>rfl) (fun f i r out=>by kernel_rfl)
theorem mo:Lw [32,38,38,32] [(2,[38,38])]:=Lp.of (n:=3) (fun i=>[⟨2,[38,38],((i+1:Nat):Int)⟩]) (by decide) (fun _=>rfl) (fun f i r out=>by kernel_rfl)
theorem A2O:Lw [41,32,124,124,32] [(2,[41]),(2,[124,124])]:=Lp.of (n:=4) (fun i=>[⟨2,[41],((i+0:Nat):Int)⟩,⟨2,[124,124],((i+2:Nat):Int)⟩]) (by decide) (fun _=>rfl) (fun f i r out=>by kernel_rfl)
theorem bT:Lw [44,32] [(2,[44])]:=Lp.of (n:=2) (fun i=>[⟨2,[44],((i+0:Nat):Int)⟩]) (by decide) (fun _=>rfl) (fun f i r out=>by kernel_rfl)
theorem bU:Lw [41,32] [(2,[41])]:=Lp.of (n:=2) (fun i=>[⟨2,[41],((i+0:Nat):Int)⟩]) (by decide) (fun _=>rfl) (fun f i r out=>by kernel_rfl)
theorem bV:Lw [32,61,61,32] [(2,[61,61])]:=Lp.of (n:=3) (fun i=>[⟨2,[61,61],((i+1:Nat):Int)⟩]) (by decide) (fun _=>rfl) (fun f i r out=>by kernel_rfl)
theorem bW:Lw [32,33,61,32] [(2,[33,61])]:=Lp.of (n:=3) (fun i=>[⟨2,[33,61],((i+1:Nat):Int)⟩]) (by decide) (fun _=>rfl) (fun f i r out=>by kernel_rfl)
theorem mq:Lw [32,43,32] [(2,[43])]:=Lp.of (n:=3) (fun i=>[⟨2,[43],((i+1:Nat):Int)⟩]) (by decide) (fun _=>rfl) (fun f i r out=>by kernel_rfl)
theorem mr:Lw [32,45,32] [(2,[45])]:=Lp.of (n:=3) (fun i=>[⟨2,[45],((i+1:Nat):Int)⟩]) (by decide) (fun _=>rfl) (fun f i r out=>by kernel_rfl)
theorem mu:Lw [32,42,32] [(2,[42])]:=Lp.of (n:=3) (fun i=>[⟨2,[42],((i+1:Nat):Int)⟩]) (by decide) (fun _=>rfl) (fun f i r out=>by kernel_rfl)
theorem mw:Lw [32,47,32] [(2,[47])]:=Lp.of (n:=3) (fun i=>[⟨2,[47],((i+1:Nat):Int)⟩]) (by decide) (fun _=>rfl) (fun f i r out=>by kernel_rfl)
theorem my:Lw [32,37,32] [(2,[37])]:=Lp.of (n:=3) (fun i=>[⟨2,[37],((i+1:Nat):Int)⟩]) (by decide) (fun _=>rfl) (fun f i r out=>by kernel_rfl)
theorem idn {s:List UInt8} (h:(match s with|c::t=>CZ (c.toNat:Int)&&t.all (fun c=>idB (c.toNat:Int))|[]=>false)=true) (hl:s.length≤32):lh s∧Lz s [(0,s)]:=by
 cases s with
 |nil=>cases h
 |cons c t=>
  simp only[Bool.and_eq_true]at h
  have h1:lh (c::t):=⟨c,t,rfl,h.1⟩
  refine⟨h1,nZ h1 (fun d hd=>?_) hl⟩
  rcases List.mem_cons.1 hd with rfl|hd
  ·unfold idB;rw[h.1];rfl
  ·exact List.all_eq_true.1 h.2 d hd
structure nmQ (s:List UInt8):Prop where
 o:nmO s
 z:Lz s [(0,s)]
 n:s≠[]
 l:s.length≤1
theorem nmQ.of {s:List UInt8} (h:(match s with|c::t=>CZ (c.toNat:Int)&&t.all (fun c=>idB (c.toNat:Int))|[]=>false)=true:=by decide) (hl:s.length≤1:=by decide) (hw:Dz s=false:=by decide):nmQ s:=by
 obtain⟨h1,h2⟩:=idn h (by omega)
 refine⟨⟨hw,h1⟩,h2,?_,hl⟩
 rintro rfl;cases h
def okK (m:Mk):Prop:=∀x∈m.b,0≤x∧x<256
theorem A7e {m:Mk} (h:okK m):0≤Ny m:=by
 unfold Ny
 split
 ·rw[List.getD_eq_getElem?_getD]
  cases hx:m.b[m.i.toNat]? with
  |none=>show 0≤Ad 0;decide
  |some x=>
   have:=h x (List.mem_of_getElem? hx)
   show 0≤Ad x
   unfold Ad;rw[wrap_i64 (by omega) (by omega)];exact this.1
 ·exact Int.le_refl _
theorem nxK {m:Mk} (h:okK m) {j:Int} (hj:0<j):0≤nxV j m∧nxV j m<j:=⟨Int.tmod_nonneg _ (A7e h),Int.tmod_lt_of_pos _ hj⟩
theorem MD {m:Mk} (h:okK m) {j:Nat} (hj:0<j):(nxV (j:Int) m).toNat<j:=by
 have:=nxK h (j:=(j:Int)) (by omega)
 omega
structure Sm0 (m q:Mk):Prop where
 b:q.b=m.b
 n:q.n=m.n
theorem Sm0.ok {m q:Mk} (h:Sm0 m q) (k:okK m):okK q:=by unfold okK;rw[h.b];exact k
theorem Sm0.trans {m q r:Mk} (h:Sm0 m q) (k:Sm0 q r):Sm0 m r:=⟨k.b.trans h.b,k.n.trans h.n⟩
theorem Sm0.refl (m:Mk):Sm0 m m:=⟨rfl,rfl⟩
theorem Ak (m:Mk):Sm0 m (nxM m):=⟨rfl,rfl⟩
theorem LP {m:Mk} (h:okK m):nmQ (A6 m).1∧Sm0 m (A6 m).2:=by
 refine⟨?_,rfl,rfl⟩
 have:=MD h (j:=6) (by decide)
 show nmQ (ivT.getD (nxV 6 m).toNat [])
 generalize (nxV 6 m).toNat=i at this
 match i,this with
 |0,_=>exact nmQ.of
 |1,_=>exact nmQ.of
 |2,_=>exact nmQ.of
 |3,_=>exact nmQ.of
 |4,_=>exact nmQ.of
 |5,_=>exact nmQ.of
theorem RH {m:Mk} (s:Int):nmQ (pvT s m).1∧Sm0 m (pvT s m).2:=by
 unfold pvT
 split
 ·split
  ·exact⟨(nmQ.of:nmQ [112]),rfl,rfl⟩
  ·exact⟨(nmQ.of:nmQ [113]),rfl,rfl⟩
 ·exact⟨(nmQ.of:nmQ [113]),rfl,rfl⟩
theorem A7f {m:Mk} (h:okK m):nmQ (cdT.getD (nxV 2 m).toNat []):=by
 have:=MD h (j:=2) (by decide)
 have e:((2:Nat):Int)=2:=rfl
 rw[e]at this
 generalize (nxV 2 m).toNat=i at this
 match i,this with
 |0,_=>exact nmQ.of
 |1,_=>exact nmQ.of
theorem wL {m:Mk} (h:okK m):nmQ (tuT.getD (nxV 2 m).toNat []):=by
 have:=MD h (j:=2) (by decide)
 have e:((2:Nat):Int)=2:=rfl
 rw[e]at this
 generalize (nxV 2 m).toNat=i at this
 match i,this with
 |0,_=>exact nmQ.of
 |1,_=>exact nmQ.of
theorem nm_q {m:Mk} (h:okK m):nmQ (nmS (nxV 4 m)):=by
 have h2:=nxK h (j:=4) (by decide)
 unfold nmS
 have h3:(nxV 4 m).tmod 4=nxV 4 m:=Int.tmod_eq_of_lt h2.1 h2.2
 rw[h3]
 have h4:(nxV 4 m).toNat<4:=by omega
 generalize (nxV 4 m).toNat=i at h4
 match i,h4 with
 |0,_=>exact nmQ.of
 |1,_=>exact nmQ.of
 |2,_=>exact nmQ.of
 |3,_=>exact nmQ.of
structure nuQ (d:List UInt8):Prop where
 o:dh d
 z:Lz d [(1,d)]
 n:d≠[]
 l:d.length≤19
theorem nuQ.of {d:List UInt8} (h:d.all (fun c=>AR (c.toNat:Int))=true:=by decide) (hn:d≠[]:=by decide) (hz:d.length=1∨d.head?≠some 48:=by decide) (hg:(dgF d 0 false).2=false∧(dgF d 0 false).1≤9223372036854775807:=by decide) (hl:d.length≤19:=by decide):nuQ d:=by
 have h1:∀c∈d,AR (c.toNat:Int)=true:=fun c hc=>List.all_eq_true.1 h c hc
 refine⟨?_,nd ⟨h1,hn,hz,hg⟩,hn,hl⟩
 cases d with
 |nil=>exact absurd rfl hn
 |cons c t=>exact⟨c,t,rfl,h1 c (by simp)⟩
theorem jk {m:Mk} (h:okK m):nuQ (nuT m).1∧Sm0 m (nuT m).2:=by
 refine⟨?_,rfl,rfl⟩
 have:=MD h (j:=8) (by decide)
 show nuQ (numT.getD (nxV 8 m).toNat [])
 generalize (nxV 8 m).toNat=i at this
 match i,this with
 |0,_=>exact nuQ.of
 |1,_=>exact nuQ.of
 |2,_=>exact nuQ.of
 |3,_=>exact nuQ.of
 |4,_=>exact nuQ.of
 |5,_=>exact nuQ.of
 |6,_=>exact nuQ.of
 |7,_=>exact nuQ.of
def apx (c:Cx) (o:Int) (b:Cx):Cx:=
 match c with
 | .bin o' x y=>if o'≤3∧4≤o then .bin o' x (.bin o y b) else .bin o (.bin o' x y) b
 |c=>.bin o c b
theorem fA (c:Cx) (o:Int) (b:Cx):(apx c o b).tk=c.tk++(2,opK o)::b.tk:=by
 unfold apx
 split
 ·split<;>simp[Cx.tk]
 ·rfl
theorem fB (c:Cx) (o:Int) (b:Cx):(apx c o b).dp=max c.dp b.dp:=by
 unfold apx
 split
 ·split
  ·simp only[Cx.dp];omega
  ·rfl
 ·rfl
theorem fC {c:Cx} {o:Int} {s:List UInt8} (hc:exO c) (ho:o=2∨o=3∨o=4∨o=5∨o=6) (hs:nmO s):exO (apx c o (.var s)):=by
 have hb:(Cx.var s).wf:=hs.1
 unfold apx
 split
 ·rename_i o' x y
  obtain⟨w,n1,n2⟩:=hc
  split
  ·rename_i h
   refine⟨?_,n1,n2,hs.2⟩
   rcases w with⟨h1,h2,h3,h4⟩|⟨h1,_⟩
   ·refine .inl ⟨h1,?_,h3,.inr ⟨by omega,h2,rfl,h4,hb⟩⟩
    simp only[Cx.lv];rw[if_neg (by omega)];exact Nat.le_refl _
   ·omega
  ·rename_i h
   refine⟨?_,⟨n1,n2⟩,hs.2⟩
   by_cases h4:o≤3
   ·exact .inl ⟨by omega,Nat.zero_le _,w,hb⟩
   ·refine .inr ⟨by omega,?_,rfl,w,hb⟩
    simp only[Cx.lv];rw[if_neg (by omega)];exact Nat.le_refl _
 ·rename_i hne
  refine⟨?_,hc.2,hs.2⟩
  have hl:c.lv=0:=by
   cases c with
   |bin o' x y=>exact absurd rfl (hne o' x y)
   |_=>rfl
  by_cases h4:o≤3
  ·exact .inl ⟨by omega,Nat.zero_le _,hc.1,hb⟩
  ·exact .inr ⟨by omega,by omega,rfl,hc.1,hb⟩
structure suQ (k:Nat) (t:List UInt8) (c:Cx):Prop where
 o:exO c
 d:c.dp≤k
 z:Lz t c.tk
 n:t≠[]
 l:t.length≤19+6*k
theorem Ac (c:UInt8) (q:List UInt8) (h:pS c=true:=by decide):∃d r,c::q=d::r∧pS d=true:=⟨c,q,rfl,h⟩
theorem A7g {m:Mk} (h:okK m):∃o:Int,(o=2∨o=3∨o=4∨o=5∨o=6)∧opT.getD (nxV 5 m).toNat []=opK o∧Lw ([32]++opK o++[32]) [(2,opK o)]:=by
 have:=MD h (j:=5) (by decide)
 have e:((5:Nat):Int)=5:=rfl
 rw[e]at this
 generalize (nxV 5 m).toNat=i at this
 match i,this with
 |0,_=>exact⟨2,by omega,rfl,mq⟩
 |1,_=>exact⟨3,by omega,rfl,mr⟩
 |2,_=>exact⟨4,by omega,rfl,mu⟩
 |3,_=>exact⟨5,by omega,rfl,mw⟩
 |4,_=>exact⟨6,by omega,rfl,my⟩
theorem KF:∀(k:Nat) {m:Mk},okK m→∃c,suQ k (A7 k m).1 c∧Sm0 m (A7 k m).2
 |0,m,h=>by
  have h1:=(Ak m).ok h
  simp only[A7]
  split
  ·obtain⟨a,b⟩:=jk h1
   exact⟨.num _,⟨⟨trivial,a.o⟩,Nat.le_refl _,a.z,a.n,a.l⟩,(Ak m).trans b⟩
  ·obtain⟨a,b⟩:=LP h1
   exact⟨.var _,⟨⟨a.o.1,a.o.2⟩,Nat.le_refl _,a.z,a.n,by have:=a.l;omega⟩,(Ak m).trans b⟩
 |k+1,m,h=>by
  have h1:=(Ak m).ok h
  simp only[A7]
  split
  ·obtain⟨a,b⟩:=jk h1
   exact⟨.num _,⟨⟨trivial,a.o⟩,Nat.zero_le _,a.z,a.n,by have:=a.l;omega⟩,(Ak m).trans b⟩
  split
  ·obtain⟨a,b⟩:=LP h1
   exact⟨.var _,⟨⟨a.o.1,a.o.2⟩,Nat.zero_le _,a.z,a.n,by have:=a.l;omega⟩,(Ak m).trans b⟩
  split
  ·obtain⟨a,b⟩:=LP h1
   refine⟨.neg (.var _),⟨⟨⟨rfl,a.o.1⟩,a.o.2⟩,by simp only[Cx.dp];omega,(Bs 45).wapp a.z,by simp,?_⟩,(Ak m).trans b⟩
   have:=a.l
   simp only[jL3];omega
  obtain⟨c,a,b⟩:=KF k h1
  have h2:=b.ok h1
  split
  ·obtain⟨a2,b2⟩:=LP h2
   refine⟨apx (.par c) 3 (.var _),⟨fC ⟨a.o.1,a.o.2⟩ (by omega) a2.o,?_,?_,by simp,?_⟩,(Ak m).trans (b.trans b2)⟩
   ·rw[fB];have:=a.d;simp only[Cx.dp];omega
   ·rw[fA]
    have e1:(Cx.par c).tk++(2,opK 3)::(Cx.var (A6 (A7 k (nxM m)).2).1).tk=(([(2,[40])]++c.tk)++[(2,[41]),(2,[45])])++[(0,(A6 (A7 k (nxM m)).2).1)]:=by simp[Cx.tk,opK]
    rw[e1]
    exact((((Bs 40).wapp a.z).app A2N (Ac _ _)).wapp a2.z)
   ·have:=a.l;have:=a2.l
    simp only[jL3];omega
  ·have h3:=(Ak (A7 k (nxM m)).2).ok h2
   obtain⟨a2,b2⟩:=LP h3
   obtain⟨o,ho,eo,lo⟩:=A7g h2
   refine⟨apx c o (.var _),⟨fC a.o ho a2.o,?_,?_,?_,?_⟩,(Ak m).trans (b.trans ((Ak _).trans b2))⟩
   ·rw[fB];have:=a.d;simp only[Cx.dp];omega
   ·rw[fA,eo]
    have e1:c.tk++(2,opK o)::(Cx.var (A6 (nxM (A7 k (nxM m)).2)).1).tk=(c.tk++[(2,opK o)])++[(0,(A6 (nxM (A7 k (nxM m)).2)).1)]:=by simp[Cx.tk]
    have e2:((((A7 k (nxM m)).1++[32])++opK o)++[32])++(A6 (nxM (A7 k (nxM m)).2)).1=((A7 k (nxM m)).1++([32]++opK o++[32]))++(A6 (nxM (A7 k (nxM m)).2)).1:=by simp
    rw[e1,e2]
    exact(a.z.app lo (Ac _ _)).wapp a2.z
   ·simp
   ·have:=a.l;have:=a2.l
    have h9:=U0 (nxV 5 (A7 k (nxM m)).2).toNat
    simp only[jL3];omega
end Go.Proofs.YtbiepiggmagfcaaGreatDoor
