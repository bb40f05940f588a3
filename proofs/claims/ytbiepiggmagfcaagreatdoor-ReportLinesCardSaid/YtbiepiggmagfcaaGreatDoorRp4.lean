/- report: what stands at a statement is added to its line. Conditions: no more than 1000 alarms and notes; the lines are shorter than 10^9 bytes. -/
import Derived.Test.YtbiepiggmagfcaaGreatDoorRp2
set_option linter.unusedVariables false
set_option linter.unusedSimpArgs false
open List (length_append length_cons append_nil length_take)
namespace Go.Proofs.YtbiepiggmagfcaaGreatDoor
open Go Go.Sy Go.Shelf Go.RowKit
def alW (at':Int) (a:Al):List UInt8:=if (a.n==at')=true then [32]++kdT a.k else []
def ntW (at':Int) (a:Nt):List UInt8:=if (wdB a.k&&a.n==at')=true then [32]++wdT a.k else []
def alP (A:List Al) (at':Int):List UInt8:=A.flatMap (alW at')
def ntP (N:List Nt) (at':Int):List UInt8:=N.flatMap (ntW at')
def CP (A:List Al) (N:List Nt) (at':Int):List UInt8:=alP A at'++ntP N at'
def addL (A:List Al) (N:List Nt) (l:List (List UInt8)) (i at':Int):List (List UInt8):=if (CP A N at').isEmpty=true then l else extL l i ([32,35]++CP A N at')
theorem OT {A:Type} (f:A→List UInt8) {l:List A} {i:Nat} {x:A} (h:l[i]?=some x):(l.take (i+1)).flatMap f=(l.take i).flatMap f++f x:=by
 rw[List.take_add_one,h];simp
theorem nV {A:List Al} {i:Nat} {x:Al} (h:A[i]?=some x) (t:Int):alP (A.take (i+1)) t=alP (A.take i) t++alW t x:=OT (alW t) h
theorem cY {A:List Nt} {i:Nat} {x:Nt} (h:A[i]?=some x) (t:Int):ntP (A.take (i+1)) t=ntP (A.take i) t++ntW t x:=OT (ntW t) h
theorem rY (t:Int) (a:Al):(alW t a).length≤8:=by
 unfold alW;split
 ·have:=UV a.k;simp only[length_append,length_cons,List.length_nil];omega
 ·exact Nat.zero_le _
theorem rZ (t:Int) (a:Nt):(ntW t a).length≤7:=by
 unfold ntW;split
 ·have:=Qj a.k;simp only[length_append,length_cons,List.length_nil];omega
 ·exact Nat.zero_le _
theorem UW {A:Type} (f:A→List UInt8) (c:Nat) (h:∀a,(f a).length≤c):∀l:List A,(l.flatMap f).length≤c*l.length
 |[]=>Nat.zero_le _
 |a::l=>by
  have:=UW f c h l
  have:=h a
  simp only[List.flatMap_cons,length_append,length_cons,Nat.mul_succ];omega
theorem L6 (A:List Al) (t:Int):(alP A t).length≤8*A.length:=UW _ 8 (rY t) A
theorem Qk (A:List Nt) (t:Int):(ntP A t).length≤7*A.length:=UW _ 7 (rZ t) A
theorem OU {A:List Al} {N:List Nt} (h1:A.length≤1000) (h2:N.length≤1000) (t:Int):(CP A N t).length≤15000:=by
 have:=L6 A t;have:=Qk N t
 unfold CP;rw[length_append];omega
def ad6:Bool→C
 |true=>.p 6 0 0
 |false=>.v (.pointer none)
def rB (u:Bool) (t:List UInt8):List C:=[ad6 u,.ov zB8 (t.map byK)]
def st2 (l:List (List UInt8)) (a:List Al) (n:List Nt) (i t:Int) (z:Nat×Bool):St:=⟨[(0,true,.one (.p 0 0 0)),(1,true,.one (.v (.int .i64 i))),(2,true,.one (.v (.int .i64 t))),(6,true,.one (.p 6 0 0)),(35,true,.one (.d (.sl zNt (n.map Nt.r)))),(36,true,.one (.v (.int .i64 (n.length:Int)))),(37,true,.one (.v (.int .i64 (z.1:Int))))],[(0,.vec 0 zRp [(Rp.mk l a n).c]),(6,.vec 0 (tgN 107 2) [rB z.2 (alP a t++ntP (n.take z.1) t)])]⟩
theorem cZ (t:Int):ntP [] t=[]:=rfl
theorem L7 (A:List Al) (N:List Nt) (t:Int):alP A t++ntP N t=CP A N t:=rfl
abbrev Lu (p:Rp) (i:Int) (t:Int):Prop:=p.l.length≤1000000∧p.a.length≤1000∧p.n.length≤1000∧(∀x∈p.l,x.length+20000≤1000000000)
abbrev Fo (p:Rp) (i:Int) (t:Int):SV:=.tup []
abbrev EC (p:Rp) (i:Int) (t:Int):List (Option MV):=[some (zRp,[({ p with l:=addL p.a p.n p.l i t }:Rp).c])]
noncomputable abbrev Fp:ArgM ((Rp)×(Int)×(Int)×Unit):=(amP (mRp) (amD (cInt .i64) (amD (cInt .i64) am0)))
abbrev ky:Prop:=BD Tryz.prog 87 ((Fp).args 0) (Fp).mem (fun p:(Rp)×(Int)×(Int)×Unit=>Lu p.1 p.2.1 p.2.2.1) (fun p:(Rp)×(Int)×(Int)×Unit=>Fo p.1 p.2.1 p.2.2.1) (fun p:(Rp)×(Int)×(Int)×Unit=>EC p.1 p.2.1 p.2.2.1)
theorem kz:∀p,(fun p:(Rp)×(Int)×(Int)×Unit=>Lu p.1 p.2.1 p.2.2.1) p→BA ((Fp).mem p).length ((fun p:(Rp)×(Int)×(Int)×Unit=>EC p.1 p.2.1 p.2.2.1) p)=true:=by intro p _;rfl
theorem l8:∀p,(fun p:(Rp)×(Int)×(Int)×Unit=>Lu p.1 p.2.1 p.2.2.1) p→AQ ((fun p:(Rp)×(Int)×(Int)×Unit=>EC p.1 p.2.1 p.2.2.1) p).length ((fun p:(Rp)×(Int)×(Int)×Unit=>Fo p.1 p.2.1 p.2.2.1) p)=true:=by intro p _;rfl
theorem l9:∀p,(fun p:(Rp)×(Int)×(Int)×Unit=>Lu p.1 p.2.1 p.2.2.1) p→∀q,some q∈(fun p:(Rp)×(Int)×(Int)×Unit=>EC p.1 p.2.1 p.2.2.1) p→∀r∈q.2,∀c∈r,c.names=[]:=by intro p _;exact TK _
attribute [local go_sem] Rp.c ad6 adC Kf Kg MF inK TI TJ WJ WI MC Jk Jm Hh Hi Jj Jl MB sR1 BU Nf CL K6 Fk K4 CW Dx TG TH zRp zSs
set_option maxRecDepth 20000 in set_option maxHeartbeats 8000000 in
attribute[local go_sem] rB in
theorem rf:ky:=by
 rintro ⟨p,i,t,_u⟩ w M I lab fz xs hc hA hl hx
 refine AJ Tryz.func87 rfl _ w M I lab fz [Fk,K4,(BU 107 0 (CM _ _) (BC _ _)),(Nf 107 0 (TF _ _) (BC _ _)),(CL 107 0 (Ds _ _) (BC _ _)),K6] [] _ _ _ xs hA hl hx (fun v hv k hk=>by have:=(Fp).an 0 ⟨p,i,t,_u⟩ v hv k hk;omega) (jN rfl) (jN rfl) ?_
 clear hx hl hA xs
 simp only[Tryz.f87]
 generalize hk0:(Fp.mem (p,i,t,_u)).length=k0
 have hmF:Uv I 0 k0=[(0,I 0)]:=by rw[← hk0];rfl
 clear hk0
 obtain⟨h1,h2,h3,h4⟩:=hc
 obtain⟨l,a,n⟩:=p
 dsimp only at h1 h2 h3 h4
 have hlen:=OU h2 h3 t
 simp only[↓eB,seval,go_sem,hmF]
 refine AH (Y:=Nat×Bool) (fun z=>z.1≤a.length)
  (fun z=>⟨[(0,true,.one (.p 0 0 0)),(1,true,.one (.v (.int .i64 i))),(2,true,.one (.v (.int .i64 t))),(6,true,.one (.p 6 0 0)),(16,true,.one (.d (.sl zAl (a.map Al.r)))),(17,true,.one (.v (.int .i64 (a.length:Int)))),(18,true,.one (.v (.int .i64 (z.1:Int))))],[(0,.vec 0 zRp [(Rp.mk l a n).c]),(6,.vec 0 (tgN 107 2) [rB z.2 (alP (a.take z.1) t)])]⟩)
  (fun z=>a.length-z.1) (0,false) (Nat.zero_le _) ?_ ?_
 ·refine A4 [.nilc 6 0 1 zB8] ?_;simp only[↓eB,seval,go_sem,hmF,alP]
 ·rintro ⟨z,u⟩ hz
  dsimp only at hz
  refine Ab [Fk,K4,BU 107 0 (CM _ _) (BC _ _),Nf 107 0 (TF _ _) (BC _ _),CL 107 0 (Ds _ _) (BC _ _),K6] [] _ _ _ ?_
  cases hx:a[z]? with
  |none=>
   have e2:=List.getElem?_eq_none_iff.1 hx
   have e1:=Ao e2
   have e3:a.take z=a:=List.take_of_length_le e2
   cases u
   ·simp only[↓eB,seval,go_sem,hmF,e1,e3]
    refine AH (Y:=Nat×Bool) (fun z=>z.1≤n.length) (st2 l a n i t)
     (fun z=>n.length-z.1) (0,false) (Nat.zero_le _) ?_ ?_
    ·refine A4 [] ?_;simp only[↓eB,seval,go_sem,hmF,st2,cZ]
    ·rintro ⟨z,u⟩ hz
     dsimp only at hz
     refine Ab [Fk,K4,BU 107 0 (CM _ _) (BC _ _),Nf 107 0 (TF _ _) (BC _ _),CL 107 0 (Ds _ _) (BC _ _),K6] [] _ _ _ ?_
     simp only[st2]
     cases hx:n[z]? with
     |none=>
      have e2:=List.getElem?_eq_none_iff.1 hx
      have e1:=Ao e2
      have e3:n.take z=n:=List.take_of_length_le e2
      cases hz:(CP a n t).isEmpty with
      |true=>
       have e4:decide ((0:Int)<(((CP a n t).length:Nat):Int))=false:=by rw[List.isEmpty_iff.1 hz];rfl
       have e5:addL a n l i t=l:=by unfold addL;rw[if_pos hz]
       cases u<;>simp only[↓eB,seval,go_sem,hmF,e1,e3,L7,e4]
       all_goals (
        try simp only[A1,A2]
        repeat' first|exact ck|with_reducible apply And.intro|intro _
        all_goals first|exact FT|exact rfl|(rename_i h;first|exact oI h|exact nah h)|(rename_i _ h _ g;exact sL h g)|decide|omega|(refine A0 [] ?_;simp only[↓eB,seval,go_sem,bne,Fo,EC,e5,hmF]))
      |false=>
       have e4:decide ((0:Int)<(((CP a n t).length:Nat):Int))=true:=by
        rw[decide_eq_true_eq]
        cases hh:CP a n t with
        |nil=>rw[hh]at hz;cases hz
        |cons b r=>simp only[length_cons];omega
       have e5:addL a n l i t=extL l i (32::35::CP a n t):=by unfold addL;rw[if_neg (by rw[hz];decide)];rfl
       have g5:(CP a n t).length≤100000000000000:=by omega
       have g6:∀x∈l,x.length+(32::35::CP a n t).length≤1000000000:=fun x hx=>by
        have:=h4 x hx;simp only[length_cons];omega
       have g7:(32::35::CP a n t).length≤1000000000:=by simp only[length_cons];omega
       cases u<;>simp only[↓eB,seval,go_sem,hmF,e1,e3,L7,e4]
       all_goals (
        try simp only[A1,A2]
        repeat' first|exact ck|with_reducible apply And.intro|intro _
        all_goals first|exact FT|exact rfl|exact h1|exact g5|(exact g6 _ (by assumption))|exact g7|exact omega|(rename_i h;first|exact oI h|exact nah h)|(rename_i _ h _ g;exact sL h g)|decide|omega|(refine A0 [] ?_;simp only[↓eB,seval,go_sem,bne,Fo,EC,e5,hmF]))
     |some x=>
      have e2:=(List.getElem?_eq_some_iff.1 hx).1
      have e1:=Ah e2
      have e4:=AX e2
      have e5:=AM (n:=n.length) (Nat.le_of_lt e2) (by omega)
      obtain⟨xn,xk,xs⟩:=x
      have e3:=cX hx
      have e6:=cY hx t
      have e7:=Qj xk
      have e8:(ntP (n.take z) t).length≤7000:=by have:=Qk (n.take z) t;rw[length_take]at this;omega
      have e10:(alP a t).length≤8000:=by have:=L6 a t;omega
      have g9:(alP a t++ntP (n.take z) t).length+(32::wdT xk).length≤100000000000000:=by simp only[length_cons,length_append];omega
      cases c0:wdB xk with
      |true=>
       cases c1:(xn==t) with
       |true=>
        have e9:ntW t ⟨xn,xk,xs⟩=[32]++wdT xk:=by unfold ntW;rw[if_pos (by simp only[c0,c1,Bool.and_self])]
        rw[e9]at e6
        cases u<;>simp only[↓eB,seval,go_sem,hmF,e1,e3,c0,c1]
        all_goals
         try simp only[A1,A2]
         repeat' first|exact ck|with_reducible apply And.intro|intro _
         all_goals try first|exact e2|exact e4|exact FT|exact g9|exact rfl|exact omega|(rename_i h;first|exact oI h|exact nah h)|(rename_i _ h _ g;exact sL h g)|decide|omega
         refine⟨(z+1,true),e2,by omega,A4 [] ?_⟩
         simp only[↓eB,seval,go_sem,hmF,e5,e6,List.append_assoc]
       |false=>
        have e9:ntW t ⟨xn,xk,xs⟩=[]:=by unfold ntW;rw[if_neg (by simp only[c0,c1,Bool.and_false];decide)]
        rw[e9,append_nil]at e6
        cases u<;>simp only[↓eB,seval,go_sem,hmF,e1,e3,c0,c1]
        ·try simp only[A1,A2]
         repeat' first|exact ck|with_reducible apply And.intro|intro _
         all_goals try first|exact e2|exact e4|(rename_i h;first|exact oI h|exact nah h)|(rename_i _ h _ g;exact sL h g)|decide|omega
         refine⟨(z+1,false),e2,by omega,A4 [] ?_⟩
         simp only[↓eB,seval,go_sem,hmF,e5,e6]
        ·try simp only[A1,A2]
         repeat' first|exact ck|with_reducible apply And.intro|intro _
         all_goals try first|exact e2|exact e4|(rename_i h;first|exact oI h|exact nah h)|(rename_i _ h _ g;exact sL h g)|decide|omega
         refine⟨(z+1,true),e2,by omega,A4 [] ?_⟩
         simp only[↓eB,seval,go_sem,hmF,e5,e6]
      |false=>
       have e9:ntW t ⟨xn,xk,xs⟩=[]:=by unfold ntW;rw[if_neg (by simp only[c0,Bool.false_and];decide)]
       rw[e9,append_nil]at e6
       cases u<;>simp only[↓eB,seval,go_sem,hmF,e1,e3,c0]
       ·try simp only[A1,A2]
        repeat' first|exact ck|with_reducible apply And.intro|intro _
        all_goals try first|exact e2|exact e4|(rename_i h;first|exact oI h|exact nah h)|(rename_i _ h _ g;exact sL h g)|decide|omega
        refine⟨(z+1,false),e2,by omega,A4 [] ?_⟩
        simp only[↓eB,seval,go_sem,hmF,e5,e6]
       ·try simp only[A1,A2]
        repeat' first|exact ck|with_reducible apply And.intro|intro _
        all_goals try first|exact e2|exact e4|(rename_i h;first|exact oI h|exact nah h)|(rename_i _ h _ g;exact sL h g)|decide|omega
        refine⟨(z+1,true),e2,by omega,A4 [] ?_⟩
        simp only[↓eB,seval,go_sem,hmF,e5,e6]
   ·simp only[↓eB,seval,go_sem,hmF,e1,e3]
    refine AH (Y:=Nat×Bool) (fun z=>z.1≤n.length) (st2 l a n i t)
     (fun z=>n.length-z.1) (0,true) (Nat.zero_le _) ?_ ?_
    ·refine A4 [] ?_;simp only[↓eB,seval,go_sem,hmF,st2,cZ]
    ·rintro ⟨z,u⟩ hz
     dsimp only at hz
     refine Ab [Fk,K4,BU 107 0 (CM _ _) (BC _ _),Nf 107 0 (TF _ _) (BC _ _),CL 107 0 (Ds _ _) (BC _ _),K6] [] _ _ _ ?_
     simp only[st2]
     cases hx:n[z]? with
     |none=>
      have e2:=List.getElem?_eq_none_iff.1 hx
      have e1:=Ao e2
      have e3:n.take z=n:=List.take_of_length_le e2
      cases hz:(CP a n t).isEmpty with
      |true=>
       have e4:decide ((0:Int)<(((CP a n t).length:Nat):Int))=false:=by rw[List.isEmpty_iff.1 hz];rfl
       have e5:addL a n l i t=l:=by unfold addL;rw[if_pos hz]
       cases u<;>simp only[↓eB,seval,go_sem,hmF,e1,e3,L7,e4]
       all_goals (
        try simp only[A1,A2]
        repeat' first|exact ck|with_reducible apply And.intro|intro _
        all_goals first|exact FT|exact rfl|(rename_i h;first|exact oI h|exact nah h)|(rename_i _ h _ g;exact sL h g)|decide|omega|(refine A0 [] ?_;simp only[↓eB,seval,go_sem,bne,Fo,EC,e5,hmF]))
      |false=>
       have e4:decide ((0:Int)<(((CP a n t).length:Nat):Int))=true:=by
        rw[decide_eq_true_eq]
        cases hh:CP a n t with
        |nil=>rw[hh]at hz;cases hz
        |cons b r=>simp only[length_cons];omega
       have e5:addL a n l i t=extL l i (32::35::CP a n t):=by unfold addL;rw[if_neg (by rw[hz];decide)];rfl
       have g5:(CP a n t).length≤100000000000000:=by omega
       have g6:∀x∈l,x.length+(32::35::CP a n t).length≤1000000000:=fun x hx=>by
        have:=h4 x hx;simp only[length_cons];omega
       have g7:(32::35::CP a n t).length≤1000000000:=by simp only[length_cons];omega
       cases u<;>simp only[↓eB,seval,go_sem,hmF,e1,e3,L7,e4]
       all_goals (
        try simp only[A1,A2]
        repeat' first|exact ck|with_reducible apply And.intro|intro _
        all_goals first|exact FT|exact rfl|exact h1|exact g5|(exact g6 _ (by assumption))|exact g7|exact omega|(rename_i h;first|exact oI h|exact nah h)|(rename_i _ h _ g;exact sL h g)|decide|omega|(refine A0 [] ?_;simp only[↓eB,seval,go_sem,bne,Fo,EC,e5,hmF]))
     |some x=>
      have e2:=(List.getElem?_eq_some_iff.1 hx).1
      have e1:=Ah e2
      have e4:=AX e2
      have e5:=AM (n:=n.length) (Nat.le_of_lt e2) (by omega)
      obtain⟨xn,xk,xs⟩:=x
      have e3:=cX hx
      have e6:=cY hx t
      have e7:=Qj xk
      have e8:(ntP (n.take z) t).length≤7000:=by have:=Qk (n.take z) t;rw[length_take]at this;omega
      have e10:(alP a t).length≤8000:=by have:=L6 a t;omega
      have g9:(alP a t++ntP (n.take z) t).length+(32::wdT xk).length≤100000000000000:=by simp only[length_cons,length_append];omega
      cases c0:wdB xk with
      |true=>
       cases c1:(xn==t) with
       |true=>
        have e9:ntW t ⟨xn,xk,xs⟩=[32]++wdT xk:=by unfold ntW;rw[if_pos (by simp only[c0,c1,Bool.and_self])]
        rw[e9]at e6
        cases u<;>simp only[↓eB,seval,go_sem,hmF,e1,e3,c0,c1]
        all_goals
         try simp only[A1,A2]
         repeat' first|exact ck|with_reducible apply And.intro|intro _
         all_goals try first|exact e2|exact e4|exact FT|exact g9|exact rfl|exact omega|(rename_i h;first|exact oI h|exact nah h)|(rename_i _ h _ g;exact sL h g)|decide|omega
         refine⟨(z+1,true),e2,by omega,A4 [] ?_⟩
         simp only[↓eB,seval,go_sem,hmF,e5,e6,List.append_assoc]
       |false=>
        have e9:ntW t ⟨xn,xk,xs⟩=[]:=by unfold ntW;rw[if_neg (by simp only[c0,c1,Bool.and_false];decide)]
        rw[e9,append_nil]at e6
        cases u<;>simp only[↓eB,seval,go_sem,hmF,e1,e3,c0,c1]
        ·try simp only[A1,A2]
         repeat' first|exact ck|with_reducible apply And.intro|intro _
         all_goals try first|exact e2|exact e4|(rename_i h;first|exact oI h|exact nah h)|(rename_i _ h _ g;exact sL h g)|decide|omega
         refine⟨(z+1,false),e2,by omega,A4 [] ?_⟩
         simp only[↓eB,seval,go_sem,hmF,e5,e6]
        ·try simp only[A1,A2]
         repeat' first|exact ck|with_reducible apply And.intro|intro _
         all_goals try first|exact e2|exact e4|(rename_i h;first|exact oI h|exact nah h)|(rename_i _ h _ g;exact sL h g)|decide|omega
         refine⟨(z+1,true),e2,by omega,A4 [] ?_⟩
         simp only[↓eB,seval,go_sem,hmF,e5,e6]
      |false=>
       have e9:ntW t ⟨xn,xk,xs⟩=[]:=by unfold ntW;rw[if_neg (by simp only[c0,Bool.false_and];decide)]
       rw[e9,append_nil]at e6
       cases u<;>simp only[↓eB,seval,go_sem,hmF,e1,e3,c0]
       ·try simp only[A1,A2]
        repeat' first|exact ck|with_reducible apply And.intro|intro _
        all_goals try first|exact e2|exact e4|(rename_i h;first|exact oI h|exact nah h)|(rename_i _ h _ g;exact sL h g)|decide|omega
        refine⟨(z+1,false),e2,by omega,A4 [] ?_⟩
        simp only[↓eB,seval,go_sem,hmF,e5,e6]
       ·try simp only[A1,A2]
        repeat' first|exact ck|with_reducible apply And.intro|intro _
        all_goals try first|exact e2|exact e4|(rename_i h;first|exact oI h|exact nah h)|(rename_i _ h _ g;exact sL h g)|decide|omega
        refine⟨(z+1,true),e2,by omega,A4 [] ?_⟩
        simp only[↓eB,seval,go_sem,hmF,e5,e6]
  |some x=>
   have e2:=(List.getElem?_eq_some_iff.1 hx).1
   have e1:=Ah e2
   have e4:=AX e2
   have e5:=AM (n:=a.length) (Nat.le_of_lt e2) (by omega)
   obtain⟨xn,xk⟩:=x
   have e3:=nT hx
   have e6:=nV hx t
   have e7:=UV xk
   have e8:(alP (a.take z) t).length≤8000:=by have:=L6 (a.take z) t;rw[length_take]at this;omega
   cases c1:(xn==t) with
   |true=>
    have e9:alW t ⟨xn,xk⟩=[32]++kdT xk:=by unfold alW;rw[if_pos c1]
    rw[e9]at e6
    have g9:(alP (a.take z) t).length+(32::kdT xk).length≤100000000000000:=by simp only[length_cons];omega
    cases u<;>simp only[↓eB,seval,go_sem,hmF,e1,e3,c1]
    all_goals
     try simp only[A1,A2]
     repeat' first|exact ck|with_reducible apply And.intro|intro _
     all_goals try first|exact e2|exact e4|exact FT|exact g9|exact rfl|exact omega|(rename_i h;first|exact oI h|exact nah h)|(rename_i _ h _ g;exact sL h g)|decide|omega
     refine⟨(z+1,true),e2,by omega,A4 [] ?_⟩
     simp only[↓eB,seval,go_sem,hmF,e5,e6]
   |false=>
    have e9:alW t ⟨xn,xk⟩=[]:=by unfold alW;rw[if_neg (by rw[c1];decide)]
    rw[e9,append_nil]at e6
    cases u<;>simp only[↓eB,seval,go_sem,hmF,e1,e3,c1]
    ·try simp only[A1,A2]
     repeat' first|exact ck|with_reducible apply And.intro|intro _
     all_goals try first|exact e2|exact e4|(rename_i h;first|exact oI h|exact nah h)|(rename_i _ h _ g;exact sL h g)|decide|omega
     refine⟨(z+1,false),e2,by omega,A4 [] ?_⟩
     simp only[↓eB,seval,go_sem,hmF,e5,e6]
    ·try simp only[A1,A2]
     repeat' first|exact ck|with_reducible apply And.intro|intro _
     all_goals try first|exact e2|exact e4|(rename_i h;first|exact oI h|exact nah h)|(rename_i _ h _ g;exact sL h g)|decide|omega
     refine⟨(z+1,true),e2,by omega,A4 [] ?_⟩
     simp only[↓eB,seval,go_sem,hmF,e5,e6]
noncomputable def Rg {X:Ctx} {w0:World}:Sy.Spec Tryz.prog X w0:=Be 87 Tryz.call87 (Fp) (fun p:(Rp)×(Int)×(Int)×Unit=>Lu p.1 p.2.1 p.2.2.1) (fun p:(Rp)×(Int)×(Int)×Unit=>Fo p.1 p.2.1 p.2.2.1) (fun p:(Rp)×(Int)×(Int)×Unit=>EC p.1 p.2.1 p.2.2.1) kz l8 l9 rf
end Go.Proofs.YtbiepiggmagfcaaGreatDoor
