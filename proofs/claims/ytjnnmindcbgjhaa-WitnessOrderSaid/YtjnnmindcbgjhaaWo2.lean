/- WitnessOrder, walked. Conditions: those of the parameters' types. -/
import Derived.Test.YtjnnmindcbgjhaaWo1
import Derived.Test.YtjnnmindcbgjhaaRmn
set_option linter.unusedVariables false
set_option linter.unusedSimpArgs false
set_option maxRecDepth 100000
set_option maxHeartbeats 16000000
open List (map_append)
namespace Go.Proofs.Ytjnnmindcbgjhaa
open Go Go.Sy Go.RowKit
def i8D (n:Int):List D:=[.v (.int .i8 n)]
abbrev zI8:List D:=[.v (.int .i8 0)]
theorem ql (a b:Int) (h:i8D a=i8D b):a=b:=by simpa [i8D] using h
noncomputable def rI8:RowC Int:=rowOf zI8 i8D ql fun _=>rfl
theorem A4J:rI8.e=i8D:=rfl
theorem A4K:rI8.z=zI8:=rfl
theorem A4L (n:Int):rI8.d [.v (.int .i8 n)]=some n:=rI8.i n
theorem y7:zI8.length=1:=rfl
theorem qm (l:List Int):Nq rI8.d (l.map i8D)=some l:=PS rI8 l
theorem A4M {l:List Int} {i:Nat} {x:Int} (h:l[i]?=some x) (z:List D):(l.map i8D).getD i z=[.v (.int .i8 x)]:=by simp[List.getD,h,i8D]
abbrev Um (n:Int):Prop:=i8R n
abbrev CX (n:Int):SV:=.one (.v (.string (bs (sgT n))))
noncomputable abbrev QM:ArgC ((Int)×Unit):=(acS (cInt .i64) ac0)
abbrev dT:Prop:=Cg Try.prog 27 QM (fun p:(Int)×Unit=>Um p.1) (fun p:(Int)×Unit=>CX p.1)
theorem dU:∀p:(Int)×Unit,((fun p:(Int)×Unit=>CX p.1) p).names=[]:=by intro p;rfl
theorem iB:dT:=by
 rintro ⟨n,_u⟩ w fz xs hc hfz hl hx
 refine Bw Try.func27 rfl w fz [Yv] [] QM (fun p:(Int)×Unit=>CX p.1) _ xs hfz hl hx (jN rfl) ?_
 clear hx hl hfz xs
 simp only[Try.f27]
 obtain⟨h1,h2⟩:=hc
 cases hn:decide (n<0) with
 |true=>
  have hn0:=of_decide_eq_true hn
  have hw:IntKind.i64.wrap (0-n)=0-n:=wrap_i64 (by omega) (by omega)
  have hr:sgT n=45::itT (0-n):=if_pos hn0
  have hl:=TO (n:=0-n) ⟨by omega,by omega⟩
  have hl2:(itT (0-n)).length≤1000:=by omega
  have h64:w64 (0-n):=⟨by omega,by omega⟩
  simp only[↓eB,seval,go_sem,Yv,SB,hn,hw]
  try simp only[A3,A4]
  repeat' first|exact ck|with_reducible apply And.intro|intro _
  all_goals first|exact h64|(exact hl2)|exact omega|(rename_i h;first|exact oI h|exact nah h)|(rename_i _ h _ g;exact sL h g)|decide|omega|(refine A0 [] ?_;simp only[↓eB,seval,go_sem,bne,CX,hr])
 |false=>
  have hn0:=of_decide_eq_false hn
  have hr:sgT n=itT n:=if_neg hn0
  have h64:w64 n:=⟨by omega,by omega⟩
  simp only[↓eB,seval,go_sem,Yv,SB,hn]
  try simp only[A3,A4]
  repeat' first|exact ck|with_reducible apply And.intro|intro _
  all_goals first|exact h64|(rename_i h;first|exact oI h|exact nah h)|(rename_i _ h _ g;exact sL h g)|decide|omega|(refine A0 [] ?_;simp only[↓eB,seval,go_sem,bne,CX,hr])
noncomputable def DL {X:Ctx} {w0:World}:Sy.Spec Try.prog X w0:=DG 27 Try.call27 QM (fun p:(Int)×Unit=>Um p.1) (fun p:(Int)×Unit=>CX p.1) dU iB
theorem KC (x:Int):BS [[C.v (.int .i64 x)]]:=by
 intro r h c hc
 rw[List.mem_singleton.1 h]at hc
 rw[List.mem_singleton.1 hc];rfl
theorem y8 (l:List Int):D7 (l.map cI)=some (l.map iD):=FX cI (fun _=>rfl) l
theorem XC (k:Nat) (z:List D) (e:List (List D)) (l:List Int):(l.map cI).map (fun r=>r.map (fzC k z e))=l.map cI:=G1 cI (fun _=>rfl) l
abbrev Cr:List C:=tgN 33 3
abbrev TB (a:Int) (b:Int) (n:List Int):Prop:=i8R a∧i8R b∧n.length≤maxLen∧∀x∈n,i8R x
abbrev EF (a:Int) (b:Int) (n:List Int):Value:=Value.bool true
attribute[local go_sem] Un.c Va.r Ox aj ak SD NF NE cSl qm cB Jq Jp ouC pgR pqR A4L A4J A4K y7 zUc in
theorem UL:LS Try.prog 10 (ahS ((cInt .i8).H) (ahS ((cInt .i8).H) (ahS (cSl rI8) ah0))) (fun p:(Int×(Int×(List Int×Unit)))=>TB p.1 p.2.1 p.2.2.1) (fun p:(Int×(Int×(List Int×Unit)))=>ofV (EF p.1 p.2.1 p.2.2.1)):=by
 rintro ⟨a,b,n,_u⟩ w fz xs hc hfz hl hx
 refine IW Try.func10 rfl w fz [CW,DL,(Dq 50 8 kgl (y_Prog 50 8 kgl)),(DK 50 10 (UJ 50 10))] [(16,[.fz 1000])] (ahS ((cInt .i8).H) (ahS ((cInt .i8).H) (ahS (cSl rI8) ah0))) (fun p:(Int×(Int×(List Int×Unit)))=>ofV (EF p.1 p.2.1 p.2.2.1)) _ xs hfz hl hx (jN rfl) ?_
 clear hx hl hfz xs
 simp only[Try.f10]
 obtain⟨ha,hb,n0,n1⟩:=hc
 dsimp only at ha hb n0 n1
 cases h0:((n.length:Int)==0) with
 |true=>
  simp only[↓eB,seval,go_sem,CW,C2,h0]
  refine A0 [] ?_;simp only[↓eB,seval,go_sem,bne,EF]
 |false=>
 cases h12:decide ((12:Int)<(n.length:Int)) with
 |true=>
  simp only[↓eB,seval,go_sem,CW,C2,h0,h12]
  refine A0 [] ?_;simp only[↓eB,seval,go_sem,bne,EF]
 |false=>
 have hl0:0<n.length:=by
  have:¬((n.length:Int)=0):=by simpa using h0
  omega
 have hl12:n.length≤12:=by have:=of_decide_eq_false h12;omega
 have wa:IntKind.i64.wrap a=a:=wrap_i64 (by have:=ha.1;omega) (by have:=ha.2;omega)
 have wb:IntKind.i64.wrap b=b:=wrap_i64 (by have:=hb.1;omega) (by have:=hb.2;omega)
 have hP:=A90 ha hb
 have hu:=A8z ha hb
 have hla:=R3 ha
 have hlb:=R3 hb
 simp only[woT,List.cons_append,List.nil_append]at hP hu
 obtain⟨P,hPe⟩:∃P,woP (woD (sgE a) (sgE b))=P:=⟨_,rfl⟩
 have hyes:=fun l h12 h1 h2=>y5 ha hb (l:=l) h12 h1 h2
 have hno:=fun l hl h12 h=>A4I ha hb (l:=l) hl h12 h
 have hww:=A91 a b
 rw[hPe]at hP hww
 simp only[hPe]at hyes hno
 simp only[↓eB,seval,go_sem,CW,C2,DL,CX,Dq,DK,h0,h12,wa,wb,hP,Ds]
 refine⟨ha,(by omega),(by omega),hb,(by simp only[jL3];omega),(by simp only[jL3];omega),⟨jN rfl,fun u h=>?_⟩,?_⟩
 ·rw[List.mem_singleton.1 h];exact hu
 refine Ac (Y:=Nat×Int×Int) (fun z=>z.1≤n.length∧(-1≤z.2.1∧z.2.1<13∧(z.2.1<0↔a∉n.take z.1))∧(-1≤z.2.2∧z.2.2<13∧(z.2.2<0↔b∉n.take z.1)))
  (fun z=>⟨[(0,true,.one (.v (.int .i8 a))),(1,true,.one (.v (.int .i8 b))),(2,true,.one (.d (.sl zI8 (n.map i8D)))),(7,true,.one (.p 7 0 0)),(8,true,.one (.s 1000)),(9,true,.one (.v (.int .i64 z.2.1))),(10,true,.one (.v (.int .i64 z.2.2))),(11,true,.one (.v (.int .i64 (z.1:Int))))],[(7,.vec 0 Cr [pqR P]),(1000,.vec 0 zI ((n.take z.1).map cI))]⟩)
  (fun z=>n.length-z.1) (0,-1,-1) ⟨Nat.zero_le _,⟨by decide,by decide,by simp⟩,by decide,by decide,by simp⟩ ?_ ?_
 ·refine A2 [.nil 8 1000 zI] ?_;simp only[↓eB,seval,go_sem,Cr]
 ·rintro ⟨k,i,j⟩ ⟨hk,⟨i0,i1,i2⟩,⟨j0,j1,j2⟩⟩
  dsimp only at hk i0 i1 i2 j0 j1 j2
  refine Aq [CW,DL,Dq 50 8 kgl (y_Prog 50 8 kgl),DK 50 10 (UJ 50 10)] [(16,[.fz 1000])] _ _ _ ?_
  cases hx:n[k]? with
  |some x=>
   have hlt:=(List.getElem?_eq_some_iff.1 hx).1
   have hkl:(k:Int)<(n.length:Int):=by omega
   have k1:=B9 hlt
   have hxm:=List.mem_of_getElem? hx
   have hx8:=n1 x hxm
   have wx:IntKind.i64.wrap x=x:=wrap_i64 (by have:=hx8.1;omega) (by have:=hx8.2;omega)
   have w1:IntKind.i64.wrap ((k:Int)+1)=((k+1:Nat):Int):=by rw[wrap_i64 (by omega) (by omega)];rfl
   have hz:=A4M hx
   have ht:n.take (k+1)=n.take k++[x]:=by rw[List.take_add_one,hx];rfl
   have hc1:(n.take (k+1)).map cI=(n.take k).map cI++[[.v (.int .i64 x)]]:=by rw[ht,map_append];rfl
   have hln:(n.take k).length=k:=by rw[List.length_take];omega
   have hln2:((n.take k).map cI).length=k:=by rw[List.length_map];exact hln
   have hA:∀(i:Int) (c:Int),(i<0↔c∉n.take k)→(x==c)=false→(i<0↔c∉n.take (k+1)):=by
    intro i c h e
    rw[ht,List.mem_append,List.mem_singleton,h]
    have:c≠x:=fun h2=>by rw[h2]at e;simp at e
    simp[this]
   have hB:∀(i:Int) (c:Int),(i<0↔c∉n.take k)→decide (i<0)=false→(i<0↔c∉n.take (k+1)):=by
    intro i c h e
    have e:=of_decide_eq_false e
    rw[ht,List.mem_append]
    constructor
    ·intro h2;exact absurd h2 e
    ·intro h2;exact h.2 fun h3=>h2 (.inl h3)
   have hC:∀(c:Int),(x==c)=true→((k:Int)<0↔c∉n.take (k+1)):=by
    intro c e
    rw[ht,← eq_of_beq e]
    constructor
    ·intro h2;omega
    ·intro h2;exact absurd (List.mem_append_right _ (List.mem_singleton.2 rfl)) h2
   have hK1:(-1:Int)≤(k:Int):=by omega
   have hK2:(k:Int)<13:=by omega
   cases ha:(x==a) with
   |true=>
    cases da:decide (i<0) with
    |true=>
     cases hb:(x==b) with
     |true=>
      cases db:decide (j<0) with
      |true=>
       simp only[↓eB,seval,go_sem,CW,C2,DL,CX,Dq,DK,k1,hz,wx,w1,ha,da,hb,db]
       refine⟨(by omega),⟨⟨rfl,.inl rfl⟩,(fun q h=>by cases h;rfl),KC x,(by decide),(by rw[hln];omega),(by rw[hln];omega)⟩,(by omega),(by omega),(k+1,(k:Int),(k:Int)),⟨hlt,⟨hK1,hK2,hC a ha⟩,⟨hK1,hK2,hC b hb⟩⟩,(by dsimp only;omega),B4 (t:=⟨[(0,true,.one (.v (.int .i8 a))),(1,true,.one (.v (.int .i8 b))),(2,true,.one (.d (.sl zI8 (n.map i8D)))),(7,true,.one (.p 7 0 0)),(8,true,.one (.s 51)),(9,true,.one (.v (.int .i64 (k:Int)))),(10,true,.one (.v (.int .i64 (k:Int)))),(11,true,.one (.v (.int .i64 ((k+1:Nat):Int))))],[(7,.vec 0 Cr [pqR P]),(51,.vec 0 zI ((n.take (k+1)).map cI))]⟩) ?_ ?_⟩
       ·rw[hc1]
        refine A2 [] ?_;simp only[↓eB,seval,go_sem,Cr,zI,E8,map_append,List.flatMap_append]
       ·refine A2 [.mv 51 1000] ?_;simp only[↓eB,seval,go_sem,Cr,zI,E8,Lh]
      |false=>
       simp only[↓eB,seval,go_sem,CW,C2,DL,CX,Dq,DK,k1,hz,wx,w1,ha,da,hb,db]
       refine⟨(by omega),⟨⟨rfl,.inl rfl⟩,(fun q h=>by cases h;rfl),KC x,(by decide),(by rw[hln];omega),(by rw[hln];omega)⟩,(by omega),(by omega),(k+1,(k:Int),j),⟨hlt,⟨hK1,hK2,hC a ha⟩,⟨j0,j1,hB j b j2 db⟩⟩,(by dsimp only;omega),B4 (t:=⟨[(0,true,.one (.v (.int .i8 a))),(1,true,.one (.v (.int .i8 b))),(2,true,.one (.d (.sl zI8 (n.map i8D)))),(7,true,.one (.p 7 0 0)),(8,true,.one (.s 51)),(9,true,.one (.v (.int .i64 (k:Int)))),(10,true,.one (.v (.int .i64 j))),(11,true,.one (.v (.int .i64 ((k+1:Nat):Int))))],[(7,.vec 0 Cr [pqR P]),(51,.vec 0 zI ((n.take (k+1)).map cI))]⟩) ?_ ?_⟩
       ·rw[hc1]
        refine A2 [] ?_;simp only[↓eB,seval,go_sem,Cr,zI,E8,map_append,List.flatMap_append]
       ·refine A2 [.mv 51 1000] ?_;simp only[↓eB,seval,go_sem,Cr,zI,E8,Lh]
     |false=>
      simp only[↓eB,seval,go_sem,CW,C2,DL,CX,Dq,DK,k1,hz,wx,w1,ha,da,hb]
      refine⟨(by omega),⟨⟨rfl,.inl rfl⟩,(fun q h=>by cases h;rfl),KC x,(by decide),(by rw[hln];omega),(by rw[hln];omega)⟩,(by omega),(by omega),(k+1,(k:Int),j),⟨hlt,⟨hK1,hK2,hC a ha⟩,⟨j0,j1,hA j b j2 hb⟩⟩,(by dsimp only;omega),B4 (t:=⟨[(0,true,.one (.v (.int .i8 a))),(1,true,.one (.v (.int .i8 b))),(2,true,.one (.d (.sl zI8 (n.map i8D)))),(7,true,.one (.p 7 0 0)),(8,true,.one (.s 51)),(9,true,.one (.v (.int .i64 (k:Int)))),(10,true,.one (.v (.int .i64 j))),(11,true,.one (.v (.int .i64 ((k+1:Nat):Int))))],[(7,.vec 0 Cr [pqR P]),(51,.vec 0 zI ((n.take (k+1)).map cI))]⟩) ?_ ?_⟩
      ·rw[hc1]
       refine A2 [] ?_;simp only[↓eB,seval,go_sem,Cr,zI,E8,map_append,List.flatMap_append]
      ·refine A2 [.mv 51 1000] ?_;simp only[↓eB,seval,go_sem,Cr,zI,E8,Lh]
    |false=>
     cases hb:(x==b) with
     |true=>
      cases db:decide (j<0) with
      |true=>
       simp only[↓eB,seval,go_sem,CW,C2,DL,CX,Dq,DK,k1,hz,wx,w1,ha,da,hb,db]
       refine⟨(by omega),⟨⟨rfl,.inl rfl⟩,(fun q h=>by cases h;rfl),KC x,(by decide),(by rw[hln];omega),(by rw[hln];omega)⟩,(by omega),(by omega),(k+1,i,(k:Int)),⟨hlt,⟨i0,i1,hB i a i2 da⟩,⟨hK1,hK2,hC b hb⟩⟩,(by dsimp only;omega),B4 (t:=⟨[(0,true,.one (.v (.int .i8 a))),(1,true,.one (.v (.int .i8 b))),(2,true,.one (.d (.sl zI8 (n.map i8D)))),(7,true,.one (.p 7 0 0)),(8,true,.one (.s 51)),(9,true,.one (.v (.int .i64 i))),(10,true,.one (.v (.int .i64 (k:Int)))),(11,true,.one (.v (.int .i64 ((k+1:Nat):Int))))],[(7,.vec 0 Cr [pqR P]),(51,.vec 0 zI ((n.take (k+1)).map cI))]⟩) ?_ ?_⟩
       ·rw[hc1]
        refine A2 [] ?_;simp only[↓eB,seval,go_sem,Cr,zI,E8,map_append,List.flatMap_append]
       ·refine A2 [.mv 51 1000] ?_;simp only[↓eB,seval,go_sem,Cr,zI,E8,Lh]
      |false=>
       simp only[↓eB,seval,go_sem,CW,C2,DL,CX,Dq,DK,k1,hz,wx,w1,ha,da,hb,db]
       refine⟨(by omega),⟨⟨rfl,.inl rfl⟩,(fun q h=>by cases h;rfl),KC x,(by decide),(by rw[hln];omega),(by rw[hln];omega)⟩,(by omega),(by omega),(k+1,i,j),⟨hlt,⟨i0,i1,hB i a i2 da⟩,⟨j0,j1,hB j b j2 db⟩⟩,(by dsimp only;omega),B4 (t:=⟨[(0,true,.one (.v (.int .i8 a))),(1,true,.one (.v (.int .i8 b))),(2,true,.one (.d (.sl zI8 (n.map i8D)))),(7,true,.one (.p 7 0 0)),(8,true,.one (.s 51)),(9,true,.one (.v (.int .i64 i))),(10,true,.one (.v (.int .i64 j))),(11,true,.one (.v (.int .i64 ((k+1:Nat):Int))))],[(7,.vec 0 Cr [pqR P]),(51,.vec 0 zI ((n.take (k+1)).map cI))]⟩) ?_ ?_⟩
       ·rw[hc1]
        refine A2 [] ?_;simp only[↓eB,seval,go_sem,Cr,zI,E8,map_append,List.flatMap_append]
       ·refine A2 [.mv 51 1000] ?_;simp only[↓eB,seval,go_sem,Cr,zI,E8,Lh]
     |false=>
      simp only[↓eB,seval,go_sem,CW,C2,DL,CX,Dq,DK,k1,hz,wx,w1,ha,da,hb]
      refine⟨(by omega),⟨⟨rfl,.inl rfl⟩,(fun q h=>by cases h;rfl),KC x,(by decide),(by rw[hln];omega),(by rw[hln];omega)⟩,(by omega),(by omega),(k+1,i,j),⟨hlt,⟨i0,i1,hB i a i2 da⟩,⟨j0,j1,hA j b j2 hb⟩⟩,(by dsimp only;omega),B4 (t:=⟨[(0,true,.one (.v (.int .i8 a))),(1,true,.one (.v (.int .i8 b))),(2,true,.one (.d (.sl zI8 (n.map i8D)))),(7,true,.one (.p 7 0 0)),(8,true,.one (.s 51)),(9,true,.one (.v (.int .i64 i))),(10,true,.one (.v (.int .i64 j))),(11,true,.one (.v (.int .i64 ((k+1:Nat):Int))))],[(7,.vec 0 Cr [pqR P]),(51,.vec 0 zI ((n.take (k+1)).map cI))]⟩) ?_ ?_⟩
      ·rw[hc1]
       refine A2 [] ?_;simp only[↓eB,seval,go_sem,Cr,zI,E8,map_append,List.flatMap_append]
      ·refine A2 [.mv 51 1000] ?_;simp only[↓eB,seval,go_sem,Cr,zI,E8,Lh]
   |false=>
    cases hb:(x==b) with
    |true=>
     cases db:decide (j<0) with
     |true=>
      simp only[↓eB,seval,go_sem,CW,C2,DL,CX,Dq,DK,k1,hz,wx,w1,ha,hb,db]
      refine⟨(by omega),⟨⟨rfl,.inl rfl⟩,(fun q h=>by cases h;rfl),KC x,(by decide),(by rw[hln];omega),(by rw[hln];omega)⟩,(by omega),(by omega),(k+1,i,(k:Int)),⟨hlt,⟨i0,i1,hA i a i2 ha⟩,⟨hK1,hK2,hC b hb⟩⟩,(by dsimp only;omega),B4 (t:=⟨[(0,true,.one (.v (.int .i8 a))),(1,true,.one (.v (.int .i8 b))),(2,true,.one (.d (.sl zI8 (n.map i8D)))),(7,true,.one (.p 7 0 0)),(8,true,.one (.s 51)),(9,true,.one (.v (.int .i64 i))),(10,true,.one (.v (.int .i64 (k:Int)))),(11,true,.one (.v (.int .i64 ((k+1:Nat):Int))))],[(7,.vec 0 Cr [pqR P]),(51,.vec 0 zI ((n.take (k+1)).map cI))]⟩) ?_ ?_⟩
      ·rw[hc1]
       refine A2 [] ?_;simp only[↓eB,seval,go_sem,Cr,zI,E8,map_append,List.flatMap_append]
      ·refine A2 [.mv 51 1000] ?_;simp only[↓eB,seval,go_sem,Cr,zI,E8,Lh]
     |false=>
      simp only[↓eB,seval,go_sem,CW,C2,DL,CX,Dq,DK,k1,hz,wx,w1,ha,hb,db]
      refine⟨(by omega),⟨⟨rfl,.inl rfl⟩,(fun q h=>by cases h;rfl),KC x,(by decide),(by rw[hln];omega),(by rw[hln];omega)⟩,(by omega),(by omega),(k+1,i,j),⟨hlt,⟨i0,i1,hA i a i2 ha⟩,⟨j0,j1,hB j b j2 db⟩⟩,(by dsimp only;omega),B4 (t:=⟨[(0,true,.one (.v (.int .i8 a))),(1,true,.one (.v (.int .i8 b))),(2,true,.one (.d (.sl zI8 (n.map i8D)))),(7,true,.one (.p 7 0 0)),(8,true,.one (.s 51)),(9,true,.one (.v (.int .i64 i))),(10,true,.one (.v (.int .i64 j))),(11,true,.one (.v (.int .i64 ((k+1:Nat):Int))))],[(7,.vec 0 Cr [pqR P]),(51,.vec 0 zI ((n.take (k+1)).map cI))]⟩) ?_ ?_⟩
      ·rw[hc1]
       refine A2 [] ?_;simp only[↓eB,seval,go_sem,Cr,zI,E8,map_append,List.flatMap_append]
      ·refine A2 [.mv 51 1000] ?_;simp only[↓eB,seval,go_sem,Cr,zI,E8,Lh]
    |false=>
     simp only[↓eB,seval,go_sem,CW,C2,DL,CX,Dq,DK,k1,hz,wx,w1,ha,hb]
     refine⟨(by omega),⟨⟨rfl,.inl rfl⟩,(fun q h=>by cases h;rfl),KC x,(by decide),(by rw[hln];omega),(by rw[hln];omega)⟩,(by omega),(by omega),(k+1,i,j),⟨hlt,⟨i0,i1,hA i a i2 ha⟩,⟨j0,j1,hA j b j2 hb⟩⟩,(by dsimp only;omega),B4 (t:=⟨[(0,true,.one (.v (.int .i8 a))),(1,true,.one (.v (.int .i8 b))),(2,true,.one (.d (.sl zI8 (n.map i8D)))),(7,true,.one (.p 7 0 0)),(8,true,.one (.s 51)),(9,true,.one (.v (.int .i64 i))),(10,true,.one (.v (.int .i64 j))),(11,true,.one (.v (.int .i64 ((k+1:Nat):Int))))],[(7,.vec 0 Cr [pqR P]),(51,.vec 0 zI ((n.take (k+1)).map cI))]⟩) ?_ ?_⟩
     ·rw[hc1]
      refine A2 [] ?_;simp only[↓eB,seval,go_sem,Cr,zI,E8,map_append,List.flatMap_append]
     ·refine A2 [.mv 51 1000] ?_;simp only[↓eB,seval,go_sem,Cr,zI,E8,Lh]
  |none=>
   have h2:=List.getElem?_eq_none_iff.1 hx
   have k1:=BA h2
   rw[List.take_of_length_le h2]at i2 j2
   rw[List.take_of_length_le h2]
   have hds:=y8 n
   have hwn:=hww n (by omega)
   cases di:decide (i<0) with
   |true=>
    have hf:=hno n hl0 hl12 (.inl (i2.1 (of_decide_eq_true di)))
    simp only[↓eB,seval,go_sem,CW,C2,DL,CX,Dq,DK,k1,di,hds,hf,PY,Ds,Cr,zI,XC,E8]
    refine⟨hwn,?_⟩
    refine A0 [] ?_;simp only[↓eB,seval,go_sem,bne,EF]
   |false=>
    cases dj:decide (j<0) with
    |true=>
     have hf:=hno n hl0 hl12 (.inr (j2.1 (of_decide_eq_true dj)))
     simp only[↓eB,seval,go_sem,CW,C2,DL,CX,Dq,DK,k1,di,dj,hds,hf,PY,Ds,Cr,zI,XC,E8]
     refine⟨hwn,?_⟩
     refine A0 [] ?_;simp only[↓eB,seval,go_sem,bne,EF]
    |false=>
     have hia:a∈n:=Classical.byContradiction fun h=>of_decide_eq_false di (i2.2 h)
     have hjb:b∈n:=Classical.byContradiction fun h=>of_decide_eq_false dj (j2.2 h)
     have hf:=hyes n hl12 hia hjb
     simp only[↓eB,seval,go_sem,CW,C2,DL,CX,Dq,DK,k1,di,dj,hds,hf,woG,wa,wb,beq_self_eq_true,Ds,Cr,zI,XC,E8]
     refine⟨hwn,?_⟩
     refine A0 [] ?_;simp only[↓eB,seval,go_sem,bne,EF]
end Go.Proofs.Ytjnnmindcbgjhaa
namespace Go.Proofs.Ytjnnmindcbgjhaa
open Go Go.Sy Go.RowKit Go.ChangeShapes Go.WideShapes Go.ChangeAt
theorem XD {n:Int} (h:(Lit.int .i8 n).wf=true):i8R n:=by
 have:=bounds_i8 h;unfold i8R;omega
section
variable {H:Type} {enc:TypeId×Value→H} {W:World}
theorem qn (fuel:Nat):Pj enc Try.prog W 75 fuel (fun l:List Int=>[.sl zI8 (l.map i8D)]) (fun l=>l.length≤maxLen∧∀x∈l,i8R x):=by
 cases fuel with
 |zero=>exact au
 |succ n=>exact dz id _ _ (Yz Try.underlying75 zI8 (by kernel_rfl) (by decide) (eA Try.underlying74)) (fun _=>rfl) (fun _ h=>⟨h.1,fun x hx=>XD (h.2 x hx)⟩)
variable {base:Nat} {v:Value} {d:DataW H} {p:List MemPlace}
theorem iC (hv:Value.okWide Try.prog W .any base 75 v) (h:DataW.Trod enc Try.prog W 0 (fun _=>true) true 75 v d p) :
  ∃l:List Int,(l.length≤maxLen∧∀x∈l,i8R x)∧CD (hp W) (fun b=>b<W.heap.size) (.one (.d (.sl zI8 (l.map i8D)))) v:=eC (f:=fun l:List Int=>D.sl zI8 (l.map i8D)) (r:=.any) (base:=base) (aw Try.underlying75 hv) h qn
end
end Go.Proofs.Ytjnnmindcbgjhaa
