/- ReportLines, walked. Conditions: bytes; the table of powers of ten is laid. -/
import Derived.Test.YtbiepiggmagfcaaGreatDoorRp15
import Derived.Test.YtbiepiggmagfcaaGreatDoorTie
import Derived.Test.YtbiepiggmagfcaaGreatDoorCards
import Derived.LaidMore
import Derived.Lay
import Derived.SevenTiedAt
import Derived.Stop.Joined
import Derived.ProofKit
import Derived.OpenShut
import Derived.Lib.SmallJoins
import Derived.Carry
import Derived.Test.YtbiepiggmagfcaaGreatDoorPx1
import Derived.Lib.LaidU8
import Derived.Test.YtbiepiggmagfcaaGreatDoorMk5
set_option linter.unusedVariables false
set_option linter.unusedSimpArgs false
set_option maxRecDepth 100000
set_option maxHeartbeats 8000000
open List (length_append length_cons length_nil append_assoc nil_append cons_append)
namespace Go.Proofs.YtbiepiggmagfcaaGreatDoor
open Go Go.Sy Go.Shelf Go.RowKit
theorem B2U:cAs.d (.one (.v (.slice none 0 0)))=some []:=Df (e:=fun l:List Al=>.one (.d (.sl zAl (l.map Al.r)))) (a:=[]) (.inr ⟨rfl,rfl⟩)
theorem B2O (l:List Ln):rpX [] [] l=lnX l:=by
 unfold rpX lnX
 congr 1
 funext x
 unfold rpW mkT
 rw[if_neg (by simp[CP,alP,ntP])]
def lA (a k:Int):List Al:=[⟨a,k⟩]
def lN (a w:Int):List Nt:=[⟨-1,3,[97]⟩,⟨a,w,[]⟩]
theorem B2V (a k:Int):cAs.d (.one (.d (.sl [.v (.int .i64 0),.v (.int .i64 0)] [[.v (.int .i64 a),.v (.int .i64 k)]])))=some (lA a k):=Sp (lA a k)
theorem B2W (a w:Int):cNs.d (.one (.d (.sl [.v (.int .i64 0),.v (.int .i64 0),.v (.string (bs []))] [[.v (.int .i64 (-1)),.v (.int .i64 3),.v (.string (bs [97]))],[.v (.int .i64 a),.v (.int .i64 w),.v (.string (bs []))]])))=some (lN a w):=bz (lN a w)
def mk1 (a k w:Int) (x:Ln):List UInt8:=if (x.n==a)=true then (if decide (w<3)=true then (((x.t++[32,35,32])++kdT k)++[32])++wdT w else (x.t++[32,35,32])++kdT k) else x.t
theorem B2P {a k w:Int} (ha:0≤a) (hw:0≤w) (x:Ln):mkT (lA a k) (lN a w) x=mk1 a k w x:=by
 obtain⟨t,n⟩:=x
 have hal:alP (lA a k) n=if (a==n)=true then [32]++kdT k else []:=by simp[alP,lA,alW]
 have hnt:ntP (lN a w) n=if (wdB w&&a==n)=true then [32]++wdT w else []:=by
  have:wdB 3=false:=rfl
  simp[ntP,lN,ntW,this]
 unfold mkT CP mk1
 dsimp only
 rw[hal,hnt]
 have hs:(a==n)=(n==a):=by rw[Bool.eq_iff_iff,beq_iff_eq,beq_iff_eq];exact eq_comm
 rw[hs]
 cases c:(n==a) with
 |false=>simp
 |true=>
  have hn:n=a:=eq_of_beq c
  subst hn
  have hwd:wdB w=decide (w<3):=by
   unfold wdB
   rw[Bool.eq_iff_iff]
   simp only[Bool.and_eq_true,decide_eq_true_eq];omega
  rw[hwd]
  cases d:decide (w<3) with
  |true=>simp[ha]
  |false=>simp[ha]
theorem B2E {A:List Al} {N:List Nt} {l:List Ln} {i:Nat} {x:Ln} (h:l[i]?=some x):rpX A N (l.drop i)=(mkT A N x++[10])++rpX A N (l.drop (i+1)):=by
 have:l.drop i=x::l.drop (i+1):=by
  obtain⟨hi,rfl⟩:=List.getElem?_eq_some_iff.1 h
  rw[List.drop_eq_getElem_cons hi]
 rw[this];rfl
theorem B2B (a b:List UInt8):(a++b).drop a.length=b:=by simp
def B2F (c:Int):Bool:=decide (IntKind.u8.wrap (c.tmod 12)=c.tmod 12∧IntKind.i64.wrap (c.tmod 12)=c.tmod 12∧IntKind.u8.wrap (c.tmod 8)=c.tmod 8∧IntKind.i64.wrap (c.tmod 8)=c.tmod 8∧IntKind.u8.wrap (c.tdiv 8)=c.tdiv 8∧IntKind.u8.wrap ((c.tdiv 8).tmod 4)=(c.tdiv 8).tmod 4∧IntKind.i64.wrap ((c.tdiv 8).tmod 4)=(c.tdiv 8).tmod 4∧0≤c.tmod 12∧0≤(c.tdiv 8).tmod 4∧(c.tdiv 8).tmod 4<4)
theorem B2G:(List.range 256).all (fun c=>B2F (c:Int))=true:=by kernel_rfl
theorem B2A {c:Int} (h0:0≤c) (h1:c<256):B2F c=true:=by
 have:=List.all_eq_true.1 B2G c.toNat (List.mem_range.2 (by omega))
 rwa [Int.toNat_of_nonneg h0]at this
abbrev B25 (k:Int) (b:List Int) (at':Int) (kd:Int):Prop:=(b.length≤maxLen∧∀x∈b,0≤x∧x<256)∧(0≤at'∧at'<256)∧(0≤kd∧kd<256)
abbrev N3 (k:Int) (b:List Int) (at':Int) (kd:Int):SV:=.one (.v (.bool true))
noncomputable abbrev yk:ArgC ((Int)×(List Int)×(Int)×(Int)×Unit):=(acS (cInt .i64) (acS (cBy) (acS (cInt .u8) (acS (cInt .u8) ac0))))
abbrev B26:Prop:=Cn Tryz.prog 7 AY yk (fun p:(Int)×(List Int)×(Int)×(Int)×Unit=>B25 p.1 p.2.1 p.2.2.1 p.2.2.2.1) (fun p:(Int)×(List Int)×(Int)×(Int)×Unit=>N3 p.1 p.2.1 p.2.2.1 p.2.2.2.1)
attribute [local go_sem] Sp bw vV bQ Ht Jc bz bx GU lnR Dm Dl Ev TG vW XH TH
theorem B27:B26:=by
 rintro ⟨k,b,at',kd,_u⟩ w fz xs hT hc hfz hl hx
 have hG:=Cj Br DA (fz:=fz) hT
 refine A9 Tryz.func7 rfl w fz [(OQ hG),RC,(Wy nD),(TB 5000 8 hG),(xl 5000 8 (B23 5000 8)),(VD 5000 8 (y_rLines 5000 8)),Fk] [] yk (fun p:(Int)×(List Int)×(Int)×(Int)×Unit=>N3 p.1 p.2.1 p.2.2.1 p.2.2.2.1) _ xs hfz hl hx (jN rfl) ?_
 clear hx hl hfz xs
 simp only[Tryz.f7]
 obtain⟨⟨hbl,hby⟩,⟨a0,a1⟩,b0,b1⟩:=hc
 dsimp only at hbl hby a0 a1 b0 b1
 cases c1:decide ((150:Int)<(b.length:Int)) with
 |true=>
  simp only[↓eB,seval,go_sem,OQ,TE,RC,Gi,Wy,TB,xl,VD,Fk,CW,rJ,kc,lyA,lyV,lyS,lyL,lyC,A34,A35,A82,B2U,c1]
  try simp only[A1,A2]
  repeat' first|exact ck|with_reducible apply And.intro|intro _
  all_goals first|exact trivial|(rename_i h;first|exact oI h|exact nah h)|(rename_i _ h _ g;exact sL h g)|decide|omega|(refine A0 [] ?_;simp only[↓eB,seval,go_sem,bne,N3])
 |false=>
 have hb2:=of_decide_eq_false c1
 have p0:=vX k
 have g1:okY b:=⟨by omega,hby⟩
 have g2:0≤plF k:=p0.1
 have R:=wt g2 g1
 have r:=xe g2 g1
 obtain⟨F,hF⟩:∃F,fnA (plF k) b=F:=⟨_,rfl⟩
 rw[hF]at R r
 have qa:=B2A a0 a1
 have qb:=B2A b0 b1
 simp only[B2F,decide_eq_true_eq]at qa qb
 obtain⟨qa1,qa2,_,_,_,_,_,qa8,_,_⟩:=qa
 obtain⟨_,_,qb3,qb4,qb5,qb6,qb7,_,qb9,qb10⟩:=qb
 obtain⟨a,hav⟩:∃a,at'.tmod 12=a:=⟨_,rfl⟩
 obtain⟨q,hqv⟩:∃q,kd.tmod 8=q:=⟨_,rfl⟩
 obtain⟨v,hvv⟩:∃v,(kd.tdiv 8).tmod 4=v:=⟨_,rfl⟩
 rw[hav]at qa1 qa2 qa8
 rw[hqv]at qb3 qb4
 rw[hvv]at qb6 qb7 qb9 qb10
 obtain⟨ok0,_⟩:=gS R r (A:=[]) (N:=[]) (by decide) (by decide)
 have hj0:jnN (rpL F [] [])=fnT F:=by rw[Xc r,B2O];rfl
 obtain⟨ok1,hl⟩:=gS R r (A:=lA a q) (N:=lN a v) (by show 1≤1000;decide) (by show 2≤1000;decide)
 have hj1:=Xc r (lA a q) (lN a v)
 have rl:=r.l
 obtain⟨R1,R2,R3,R4,R5⟩:=R
 have R6:(fnT F).length≤1000000000:=by omega
 obtain⟨L,hL⟩:∃L,lnF F=L:=⟨_,rfl⟩
 rw[hL]at hl hj1 rl
 simp only[↓eB,seval,go_sem,OQ,TE,RC,Gi,Wy,TB,xl,VD,Fk,CW,rJ,kc,lyA,lyV,lyS,lyL,lyC,A34,A35,A82,B2U,c1,hF,Fn.c,hj0,hj1,B2V,B2W,bne_self_eq_false,beq_self_eq_true,hav,hqv,hvv,qa1,qa2,qb3,qb4,qb5,qb6,qb7,hL]
 try simp only[A1,A2]
 repeat' (first|exact ck|with_reducible apply And.intro)
 all_goals try first|exact g1|exact g2|exact ok0|exact ok1|exact R1|exact R2|exact R3|exact R4|exact R6|decide|omega
 refine AH (Y:=Nat) (fun z=>z≤L.length)
  (fun z=>⟨[(2,true,.one (.v (.int .u8 at'))),(3,true,.one (.v (.int .u8 kd))),(10,true,lnR L),(11,true,.one (.v (.string (bs (rpX (lA a q) (lN a v) (L.drop z)))))),(12,true,.one (.v (.int .i64 (z:Int))))],[]⟩)
  (fun z=>L.length-z) 0 (Nat.zero_le _) ?_ ?_
 ·refine A4 [] ?_;simp only[↓eB,seval,go_sem,hL]
 ·rintro i hi
  refine Ab [OQ hG,RC,Wy nD,TB 5000 8 hG,xl 5000 8 (B23 5000 8),VD 5000 8 (y_rLines 5000 8),Fk] [] _ _ _ ?_
  cases hx:L[i]? with
  |none=>
   have e2:=List.getElem?_eq_none_iff.1 hx
   have e1:=Ao e2
   have e3:rpX (lA a q) (lN a v) (L.drop i)=[]:=by rw[List.drop_eq_nil_of_le e2];rfl
   simp only[↓eB,seval,go_sem,e1,e3,beq_self_eq_true]
   try simp only[A1,A2]
   repeat' first|exact ck|with_reducible apply And.intro|intro _
   all_goals first|exact trivial|(rename_i h;first|exact oI h|exact nah h)|(rename_i _ h _ g;exact sL h g)|decide|omega|(refine A0 [] ?_;simp only[↓eB,seval,go_sem,bne,N3])
  |some x=>
   have e2:=(List.getElem?_eq_some_iff.1 hx).1
   have e1:=Ah e2
   have e9:=AX e2
   have hs:=AM (n:=L.length) (Nat.le_of_lt e2) (by omega)
   have e4:=B2E (A:=lA a q) (N:=lN a v) hx
   have e5:(rpX (lA a q) (lN a v) (L.drop i)).length≤(rpX (lA a q) (lN a v) L).length:=by
    have:rpX (lA a q) (lN a v) L=rpX (lA a q) (lN a v) (L.take i)++rpX (lA a q) (lN a v) (L.drop i):=by unfold rpX;rw[← List.flatMap_append,List.take_append_drop]
    rw[this,length_append];omega
   rw[B2P qa8 qb9]at e4
   obtain⟨xt,xn⟩:=x
   have e3:=y9 hx
   obtain⟨S,hS⟩:∃S,rpX (lA a q) (lN a v) (L.drop (i+1))=S:=⟨_,rfl⟩
   rw[hS]at e4
   rw[e4]at e5
   have hk:=UV q
   cases d1:(xn==a) with
   |false=>
    have m1:mk1 a q v ⟨xt,xn⟩=xt:=by unfold mk1;rw[if_neg (by rw[d1];decide)]
    rw[m1]at e4 e5
    obtain⟨W,hW⟩:∃W,(xt)++[10]=W:=⟨_,rfl⟩
    rw[hW]at e4 e5
    have h7:decide (((W++S).length:Int)<(W.length:Int))=false:=by simp only[length_append,decide_eq_false_iff_not];omega
    have h8:(W.length:Int)≤((W++S).length:Int):=by simp only[length_append];omega
    have h6:W.length≤1000000000:=by simp only[length_append]at e5;omega
    have h5:(xt).length+1≤1000000000:=by rw[← hW]at h6;simp only[jL3]at h6 ⊢;omega
    have hW2:=hW
    try simp only[append_assoc,cons_append,nil_append]at hW2
    simp only[↓eB,seval,go_sem,OQ,TE,RC,Gi,Wy,TB,xl,VD,Fk,CW,rJ,kc,lyA,lyV,lyS,lyL,lyC,A34,A35,A82,B2U,hav,hqv,hvv,qa1,qa2,qb3,qb4,qb5,qb6,qb7,e1,e3,e4,d1,hW,hW2,h7,beq_self_eq_true,Int.reduceToNat]
    try simp only[A1,A2]
    repeat' first|exact ck|with_reducible apply And.intro|intro _
    all_goals try first|exact h6|exact h8|exact e9|exact omega|(simp only[jL3]at *;omega)|(rename_i h;first|exact oI h|exact nah h)|(rename_i _ h _ g;exact sL h g)|decide|omega
    refine⟨i+1,e2,(by show L.length-(i+1)<L.length-i;omega),?_⟩
    refine A4 [] ?_;simp only[↓eB,seval,go_sem,hs,hS,B2B]
   |true=>
    cases d2:decide (v<3) with
    |false=>
     have m1:mk1 a q v ⟨xt,xn⟩=(xt++[32,35,32])++kdT q:=by unfold mk1;rw[if_pos d1,if_neg (by rw[d2];decide)]
     rw[m1]at e4 e5
     obtain⟨W,hW⟩:∃W,((xt++[32,35,32])++kdT q)++[10]=W:=⟨_,rfl⟩
     rw[hW]at e4 e5
     have h7:decide (((W++S).length:Int)<(W.length:Int))=false:=by simp only[length_append,decide_eq_false_iff_not];omega
     have h8:(W.length:Int)≤((W++S).length:Int):=by simp only[length_append];omega
     have h6:W.length≤1000000000:=by simp only[length_append]at e5;omega
     have h5:((xt++[32,35,32])++kdT q).length+1≤1000000000:=by rw[← hW]at h6;simp only[jL3]at h6 ⊢;omega
     have hW2:=hW
     try simp only[append_assoc,cons_append,nil_append]at hW2
     simp only[↓eB,seval,go_sem,OQ,TE,RC,Gi,Wy,TB,xl,VD,Fk,CW,rJ,kc,lyA,lyV,lyS,lyL,lyC,A34,A35,A82,B2U,hav,hqv,hvv,qa1,qa2,qb3,qb4,qb5,qb6,qb7,e1,e3,e4,d1,d2,hW,hW2,h7,beq_self_eq_true,Int.reduceToNat]
     try simp only[A1,A2]
     repeat' first|exact ck|with_reducible apply And.intro|intro _
     all_goals try first|exact h6|exact h8|exact e9|exact omega|(simp only[jL3]at *;omega)|(rename_i h;first|exact oI h|exact nah h)|(rename_i _ h _ g;exact sL h g)|decide|omega
     refine⟨i+1,e2,(by show L.length-(i+1)<L.length-i;omega),?_⟩
     refine A4 [] ?_;simp only[↓eB,seval,go_sem,hs,hS,B2B]
    |true=>
     have d3:=of_decide_eq_true d2
     have hv3:v=0∨v=1∨v=2:=by omega
     rcases hv3 with rfl|rfl|rfl
     ·have m1:mk1 a q 0 ⟨xt,xn⟩=(((xt++[32,35,32])++kdT q)++[32])++[100,101,97,100]:=by unfold mk1;rw[if_pos d1];rfl
      rw[m1]at e4 e5
      obtain⟨W,hW⟩:∃W,((((xt++[32,35,32])++kdT q)++[32])++[100,101,97,100])++[10]=W:=⟨_,rfl⟩
      rw[hW]at e4 e5
      have h7:decide (((W++S).length:Int)<(W.length:Int))=false:=by simp only[length_append,decide_eq_false_iff_not];omega
      have h8:(W.length:Int)≤((W++S).length:Int):=by simp only[length_append];omega
      have h6:W.length≤1000000000:=by simp only[length_append]at e5;omega
      have h5:((((xt++[32,35,32])++kdT q)++[32])++[100,101,97,100]).length+1≤1000000000:=by rw[← hW]at h6;simp only[jL3]at h6 ⊢;omega
      have hW2:=hW
      try simp only[append_assoc,cons_append,nil_append]at hW2
      simp only[↓eB,seval,go_sem,OQ,TE,RC,Gi,Wy,TB,xl,VD,Fk,CW,rJ,kc,lyA,lyV,lyS,lyL,lyC,A34,A35,A82,B2U,hav,hqv,hvv,qa1,qa2,qb3,qb4,qb5,qb6,qb7,e1,e3,e4,d1,d2,hW,hW2,h7,beq_self_eq_true,Int.reduceToNat]
      try simp only[A1,A2]
      repeat' first|exact ck|with_reducible apply And.intro|intro _
      all_goals try first|exact h6|exact h8|exact e9|exact omega|(simp only[jL3]at *;omega)|(rename_i h;first|exact oI h|exact nah h)|(rename_i _ h _ g;exact sL h g)|decide|omega
      refine⟨i+1,e2,(by show L.length-(i+1)<L.length-i;omega),?_⟩
      refine A4 [] ?_;simp only[↓eB,seval,go_sem,hs,hS,B2B]
     ·have m1:mk1 a q 1 ⟨xt,xn⟩=(((xt++[32,35,32])++kdT q)++[32])++[97,108,119,97,121,115]:=by unfold mk1;rw[if_pos d1];rfl
      rw[m1]at e4 e5
      obtain⟨W,hW⟩:∃W,((((xt++[32,35,32])++kdT q)++[32])++[97,108,119,97,121,115])++[10]=W:=⟨_,rfl⟩
      rw[hW]at e4 e5
      have h7:decide (((W++S).length:Int)<(W.length:Int))=false:=by simp only[length_append,decide_eq_false_iff_not];omega
      have h8:(W.length:Int)≤((W++S).length:Int):=by simp only[length_append];omega
      have h6:W.length≤1000000000:=by simp only[length_append]at e5;omega
      have h5:((((xt++[32,35,32])++kdT q)++[32])++[97,108,119,97,121,115]).length+1≤1000000000:=by rw[← hW]at h6;simp only[jL3]at h6 ⊢;omega
      have hW2:=hW
      try simp only[append_assoc,cons_append,nil_append]at hW2
      simp only[↓eB,seval,go_sem,OQ,TE,RC,Gi,Wy,TB,xl,VD,Fk,CW,rJ,kc,lyA,lyV,lyS,lyL,lyC,A34,A35,A82,B2U,hav,hqv,hvv,qa1,qa2,qb3,qb4,qb5,qb6,qb7,e1,e3,e4,d1,d2,hW,hW2,h7,beq_self_eq_true,Int.reduceToNat]
      try simp only[A1,A2]
      repeat' first|exact ck|with_reducible apply And.intro|intro _
      all_goals try first|exact h6|exact h8|exact e9|exact omega|(simp only[jL3]at *;omega)|(rename_i h;first|exact oI h|exact nah h)|(rename_i _ h _ g;exact sL h g)|decide|omega
      refine⟨i+1,e2,(by show L.length-(i+1)<L.length-i;omega),?_⟩
      refine A4 [] ?_;simp only[↓eB,seval,go_sem,hs,hS,B2B]
     ·have m1:mk1 a q 2 ⟨xt,xn⟩=(((xt++[32,35,32])++kdT q)++[32])++[110,101,118,101,114]:=by unfold mk1;rw[if_pos d1];rfl
      rw[m1]at e4 e5
      obtain⟨W,hW⟩:∃W,((((xt++[32,35,32])++kdT q)++[32])++[110,101,118,101,114])++[10]=W:=⟨_,rfl⟩
      rw[hW]at e4 e5
      have h7:decide (((W++S).length:Int)<(W.length:Int))=false:=by simp only[length_append,decide_eq_false_iff_not];omega
      have h8:(W.length:Int)≤((W++S).length:Int):=by simp only[length_append];omega
      have h6:W.length≤1000000000:=by simp only[length_append]at e5;omega
      have h5:((((xt++[32,35,32])++kdT q)++[32])++[110,101,118,101,114]).length+1≤1000000000:=by rw[← hW]at h6;simp only[jL3]at h6 ⊢;omega
      have hW2:=hW
      try simp only[append_assoc,cons_append,nil_append]at hW2
      simp only[↓eB,seval,go_sem,OQ,TE,RC,Gi,Wy,TB,xl,VD,Fk,CW,rJ,kc,lyA,lyV,lyS,lyL,lyC,A34,A35,A82,B2U,hav,hqv,hvv,qa1,qa2,qb3,qb4,qb5,qb6,qb7,e1,e3,e4,d1,d2,hW,hW2,h7,beq_self_eq_true,Int.reduceToNat]
      try simp only[A1,A2]
      repeat' first|exact ck|with_reducible apply And.intro|intro _
      all_goals try first|exact h6|exact h8|exact e9|exact omega|(simp only[jL3]at *;omega)|(rename_i h;first|exact oI h|exact nah h)|(rename_i _ h _ g;exact sL h g)|decide|omega
      refine⟨i+1,e2,(by show L.length-(i+1)<L.length-i;omega),?_⟩
      refine A4 [] ?_;simp only[↓eB,seval,go_sem,hs,hS,B2B]
end Go.Proofs.YtbiepiggmagfcaaGreatDoor
namespace Go.Proofs.YtbiepiggmagfcaaGreatDoor
open Go Go.RowKit Go.ChangeShapes Go.WideShapes Go.ChangeAt
theorem A7M:ownKnob Tryz.prog.godebug=none:=by kernel_rfl
theorem A1i:laidOutB Tryz.prog=true:=by kernel_rfl
theorem Ov {H:Type} {enc:TypeId×Value→H} {P:Program} (hl:laidOutB P=true) {W W':World} (hb:Below W.heap.size W W'):∀(ts:List TypeId) (vs:List Value) (ds:List (DataW H)) (ps:List MemPlace),
  (∀t∈ts,P.readableRec t=true∧t<P.types.size)→DataW.TrodAll enc P W 0 (fun _=>true) true ts vs ds ps→(∀x∈ps,x.block<W.heap.size)→DataW.TrodAll enc P W' 0 (fun b=>decide (b<W.heap.size)) true ts vs ds ps
 |[],vs,ds,ps,_,h,_=>by
  obtain⟨rfl,rfl,rfl⟩:=trodAll_nil h
  exact trodAll_mk0
 |t::ts,vs,ds,ps,hts,h,hlt=>by
  obtain⟨v,vs',d,ds',p,q,rfl,rfl,rfl,h1,h2⟩:=trodAll_cons h
  have ht:=hts t (List.mem_cons_self ..)
  exact trodAll_cons_mk (Below.trod hl ht.1 ht.2 h1 hb fun x hx=>hlt x (List.mem_append_left _ hx))
   (Ov hl hb ts vs' ds' q (fun t' ht'=>hts t' (List.mem_cons_of_mem _ ht')) h2 fun x hx=>hlt x (List.mem_append_right _ hx))
theorem jI {H:Type} {enc:TypeId×Value→H} {f:Func} {s:ChangeSpec} {W W':World} {args:Array Value} {ds gs:List (DataW H)} {before:List MemPlace} (hW:DataW.Whole enc Tryz.prog f.params.toList s.vars false W args.toList ds gs before)
  (hv:s.vars=[]) (hr:f.resultTypes = #[4]) (hts:∀t∈f.params.toList,Tryz.prog.readableRec t=true∧t<Tryz.prog.types.size)
  (hf:gs=[]→(s.fn H (ds++gs)).results=[.lit (.bool true)]∧(s.fn H (ds++gs)).args=ds∧(s.fn H (ds++gs)).vars=[]) (hb:Below W.heap.size W W') :
  s.post enc Tryz.prog f false true false false W args (.bool true) W':=by
 have hlt:=hW.lt
 have hW0:=hW
 obtain⟨p,q,hA,hV,rfl,_,_⟩:=hW
 rw[hv]at hV
 obtain⟨rfl,rfl⟩:=trodVars_none hV
 obtain⟨f1,f2,f3⟩:=hf rfl
 refine⟨ds,[],p++[],[],p,[],hW0,?_,?_,?_,hb.frame _,fun h=>by cases h⟩
 ·rw[f1,hr]
  exact trodAll_cons_mk (shut_bool Tryz.underlying4 true) trodAll_mk0
 ·rw[f2]
  exact Ov A1i hb _ _ _ _ hts hA fun x hx=>by simpa using hlt x (List.mem_append_left _ hx)
 ·rw[f3,hv];rfl
end Go.Proofs.YtbiepiggmagfcaaGreatDoor
namespace Go.Proofs.YtbiepiggmagfcaaGreatDoor
open Go Go.Sy Go.RowKit Go.ChangeShapes Go.WideShapes Go.ChangeAt
theorem eP {P:Program} {f:FuncId} {T:World→Prop} {A:Type} {ac:ArgC A} {Cd:A→Prop} {F:A→SV} (h:Cn P f T ac Cd F) (a:A) (w:World) (hT:T w) (hc:Cd a) (vals:List Value) (val:Value) (hl:vals.length=(ac.e a).length)
  (h1:∀(j:Nat) (v:SV) (x:Value),(ac.e a)[j]?=some v→vals[j]?=some x→CD (hp w) (fun b=>b<w.heap.size) v x)
  (h2:II (F a)=some val):Calls P f vals.toArray w (fun e w'=>e= .returned val∧Below w.heap.size w w'):=by
 refine(h a w (fun b=>b<w.heap.size) vals hT hc (fun _ h=>h) hl h1).mono ?_
 rintro e w' ⟨v,x,fz',rfl,rfl,g1,g2,g3,g4,g5,g6⟩
 rw[CF g5 h2]
 exact⟨rfl,g6⟩
theorem jJ:(Rows.laid_internal_strconv_uint64pow10:DataW Unit)=Lib.tabData .u64 Lib.pow10Tab:=by kernel_rfl
theorem jK:((Tryz.prog.globalNamed "internal/strconv.uint64pow10").bind fun g=>(Tryz.prog.globals[g]?).map (·.type))=some 191:=by kernel_rfl
section
variable {H:Type} {enc:TypeId×Value→H} {W:World}
theorem eQ {P:Program} {t:TypeId} {fuel:Nat} {A B:Type} {e:A→List D} {Q:A→Prop} (f:A→B) (e':B→List D) (Q':B→Prop) (h:D0 enc P W t fuel e Q) (hl:∀a,(e' (f a)).length=(e a).length)
  (hr:∀a (j:Nat) (d':D),(e' (f a))[j]?=some d'→∃d,(e a)[j]?=some d∧∀v,Rd (hp W) (fun b=>b<W.heap.size) d v→Rd (hp W) (fun b=>b<W.heap.size) d' v) (hq:∀a,Q a→Q' (f a)):D0 enc P W t fuel e' Q':=by
 intro cs x hx
 obtain⟨a,h1,h2,h3⟩:=h cs x hx
 refine⟨f a,hq a h1,by rw[hl];exact h2,fun j d' hj=>?_⟩
 obtain⟨d,g1,g2⟩:=hr a j d' hj
 obtain⟨v,g3,g4⟩:=h3 j d g1
 exact⟨v,g3,g2 v g4⟩
theorem WV {n:Int} (h:(Lit.int .i64 n).wf=true):w64 n:=by
 have:=bounds_i64 h;exact⟨by omega,by omega⟩
abbrev ExT:Type:=Int×Int×List UInt8×Ex×Ex×Unit
def A7N:Option ExT→Ex
 |none=>.nil
 |some (k,n,s,a,b,_)=>.mk k n s a b
def vY (p:ExT):List D:=[dI p.1]++([dI p.2.1]++([dS p.2.2.1]++([p.2.2.2.1.d]++([p.2.2.2.2.1.d]++[]))))
def vZ (p:ExT):Prop:=(Lit.int .i64 p.1).wf=true∧(Lit.int .i64 p.2.1).wf=true∧p.2.2.1.length≤maxLen∧okN p.2.2.2.1∧okN p.2.2.2.2.1∧True
mutual
theorem eR:∀fuel,D0 enc Tryz.prog W 68 fuel (fun e:Ex=>[e.d]) okN
 |0=>CV
 |n+1=>by
  refine eQ A7N _ _ (kn Tryz.underlying68 (Nat.lt_of_lt_of_eq (Nat.succ_pos 4) (by kernel_rfl)) (oN n)) (fun _=>rfl) ?_ ?_
  ·rintro o j d' hj
   cases j with
   |zero=>
    simp only[List.getElem?_cons_zero,jS]at hj
    subst hj
    cases o with
    |none=>exact⟨_,rfl,fun v r=>by cases r;exact .v _ rfl⟩
    |some u=>exact⟨_,rfl,fun v r=>r⟩
   |succ j=>simp at hj
  ·intro o ho
   cases o with
   |none=>trivial
   |some u=>
    obtain⟨h1,h2,h3,h4,h5,_⟩:=ho u rfl
    exact⟨WV h2,h4,h5⟩
theorem oN:∀fuel,D0 enc Tryz.prog W 70 fuel vY vZ
 |0=>CV
 |n+1=>by
  refine DK (e':=vY) (Q':=vZ) id (h:=EB (n:=5) Tryz.underlying70 (by kernel_rfl) (BK (m:=1) (n:=4) rfl (by kernel_rfl) (El Tryz.underlying3) (BK (m:=1) (n:=3) rfl (by kernel_rfl) (El Tryz.underlying2) (BK (m:=1) (n:=2) rfl (by kernel_rfl) (OR Tryz.underlying9) (BK (m:=1) (n:=1) rfl (by kernel_rfl) (eR n) (BK (m:=1) (n:=0) rfl (by kernel_rfl) (eR n) (H4 _))))))) (he:=fun _=>rfl) (hq:=fun _ h=>h)
end
end
end Go.Proofs.YtbiepiggmagfcaaGreatDoor
namespace Go.Proofs.YtbiepiggmagfcaaGreatDoor
open Go Go.Sy Go.RowKit Go.ChangeShapes Go.WideShapes Go.ChangeAt
section
variable {H:Type} {enc:TypeId×Value→H} {W:World} {base:Nat} {v:Value} {d:DataW H} {p:List MemPlace}
theorem oM {n:Int} (h:(Lit.int .u8 n).wf=true):0≤n∧n<256:=by
 have:=bounds_u8 h;omega
theorem eO:Opn enc Tryz.prog W 22 (fun l:List Int=>[.sl zBy (l.map byD)]) (fun l=>l.length≤maxLen∧∀x∈l,0≤x∧x<256):=by
 intro fuel
 cases fuel with
 |zero=>exact CV
 |succ n=>exact DK id _ _ (I5 Tryz.underlying22 zBy (by kernel_rfl) (by decide) (El Tryz.underlying5)) (fun _=>rfl) (fun _ h=>⟨h.1,fun x hx=>oM (h.2 x hx)⟩)
theorem bF (hv:Value.okWide Tryz.prog W .any base 22 v) (h:DataW.Trod enc Tryz.prog W 0 (fun _=>true) true 22 v d p) :
  ∃a:List Int,(a.length≤maxLen∧∀x∈a,0≤x∧x<256)∧CD (hp W) (fun b=>b<W.heap.size) (.one (.d (.sl zBy (a.map byD)))) v:=
 OS (r:=.any) (base:=base) (f:=fun l:List Int=>.sl zBy (l.map byD)) (MO Tryz.underlying22 hv) h eO
end
end Go.Proofs.YtbiepiggmagfcaaGreatDoor
namespace Go.Proofs.YtbiepiggmagfcaaGreatDoor
open Go Go.Sy Go.RowKit Go.ChangeShapes Go.WideShapes Go.ChangeAt
theorem B24 {W:World} (h:laidMetH Tryz.prog Rows.reportLinesRow.laid W):AY W:=by
 rw[MakeChecks.laidMetH_plain _ _ _ (by kernel_rfl)]at h
 obtain⟨g,t,cs,fuel,p,h1,h2,h3,h4⟩:=Lib.laidMet.reads h (n := "internal/strconv.uint64pow10") (d:=Rows.laid_internal_strconv_uint64pow10) (.tail _ (.tail _ (.head _)))
 have h5:=jK
 rw[h1,Option.bind_some,h2]at h5
 obtain rfl:=Option.some.inj h5
 rw[jJ]at h4
 unfold AY Lib.TabIs
 rw[h3,← Lib.cells_of_tab Tryz.underlying191 Tryz.underlying139 (by kernel_rfl) (by kernel_rfl) h4]
theorem B28 (a0:Int) (w0:(Lit.int .i64 a0).wf=true) (a1:List Int) (v1:Value) (w1:a1.length≤maxLen∧∀x∈a1,0≤x∧x<256) (a2:Int) (w2:(Lit.int .u8 a2).wf=true) (a3:Int) (w3:(Lit.int .u8 a3).wf=true) (W:World) (x1:CD (hp W) (fun b=>b<W.heap.size) (.one (.d (.sl zBy (a1.map byD)))) v1) (hT:AY W) :
  Calls Tryz.prog 7 #[.int .i64 a0,v1,.int .u8 a2,.int .u8 a3] W (fun en W'=>en= .returned (.bool true)∧Below W.heap.size W W'):=by
 refine eP B27 (a0,a1,a2,a3,()) W hT ⟨w1,oM w2,oM w3⟩ [.int .i64 a0,v1,.int .u8 a2,.int .u8 a3] (.bool true) rfl ?_ rfl
 intro j u x h1 h2
 rcases j with _|_|_|_|j
 ·obtain rfl:Value.int .i64 a0=x:=Option.some.inj h2
  obtain rfl:SV.one (.v (.int .i64 a0))=u:=Option.some.inj h1
  exact IG (H:=fun _=>none) (c:=.v _) rfl (.v _ _ rfl)
 ·obtain rfl:v1=x:=Option.some.inj h2
  obtain rfl:SV.one (.d (.sl zBy (a1.map byD)))=u:=Option.some.inj h1
  exact x1
 ·obtain rfl:Value.int .u8 a2=x:=Option.some.inj h2
  obtain rfl:SV.one (.v (.int .u8 a2))=u:=Option.some.inj h1
  exact IG (H:=fun _=>none) (c:=.v _) rfl (.v _ _ rfl)
 ·obtain rfl:Value.int .u8 a3=x:=Option.some.inj h2
  obtain rfl:SV.one (.v (.int .u8 a3))=u:=Option.some.inj h1
  exact IG (H:=fun _=>none) (c:=.v _) rfl (.v _ _ rfl)
 ·exact absurd (show ([]:List Value)[j]?=some x from h2) (by simp)
end Go.Proofs.YtbiepiggmagfcaaGreatDoor
