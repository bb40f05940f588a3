/- report: how many lines statements have, and what is added to each. Conditions: no more than 1000 alarms and notes; the lines are shorter than 10^9 bytes. -/
import Derived.Test.YtbiepiggmagfcaaGreatDoorRp4
set_option linter.unusedVariables false
set_option linter.unusedSimpArgs false
set_option maxRecDepth 20000
set_option maxHeartbeats 8000000
namespace Go.Proofs.YtbiepiggmagfcaaGreatDoor
open Go Go.Sy Go.Shelf Go.RowKit
theorem aF:zSm.length=10:=rfl
theorem aG {l:List Sm} {i:Nat} {k no:Int} {x y:List UInt8} {e f:Ex} {c:Cd} {ar:List Ar} {th el:List Sm} (h:l[i]?=some (.mk k x y e f c ar th el no)) (z:List D):(l.map Sm.r).getD i z=[dI k,dS x,dS y,e.d,f.d,c.d,.sl zAr (ar.map Ar.r),.sl zSm (th.map Sm.r),.sl zSm (el.map Sm.r),dI no]:=by
 simp[List.getD,h]
 simp only[bG,Sm.k,Sm.x,Sm.y,Sm.e,Sm.f,Sm.cd,Sm.ar,Sm.th,Sm.el,Sm.no]
mutual
def htS:Sm→Nat
 | .mk k _ _ _ _ _ _ th el _=>if (k==10)=true then 1+(htB th+1)+(if el.isEmpty=true then 0 else htB el+1) else if (k==11)=true then 1+(htB th+1) else 1
def htB:List Sm→Nat
 |[]=>0
 |s::l=>htS s+htB l
end
mutual
def bkS (A:List Al) (N:List Nt):Sm→List (List UInt8)→Int→List (List UInt8)
 | .mk k _ _ _ _ _ _ th el no,l,i=>
  if (k==10)=true then (if el.isEmpty=true then bkB A N th (addL A N l i no) (i+1) else bkB A N el (bkB A N th (addL A N l i no) (i+1)) (i+1+(htB th:Int)+1))
  else if (k==11)=true then bkB A N th (addL A N l i no) (i+1)
  else addL A N l i no
def bkB (A:List Al) (N:List Nt):List Sm→List (List UInt8)→Int→List (List UInt8)
 |[],l,_=>l
 |s::r,l,i=>bkB A N r (bkS A N s l i) (i+(htS s:Int))
end
theorem UX:∀a b:List Sm,htB (a++b)=htB a+htB b
 |[],b=>by simp[htB]
 |s::a,b=>by simp only[List.cons_append,htB,UX a b];omega
theorem aH (A:List Al) (N:List Nt):∀(a b:List Sm) (l:List (List UInt8)) (i:Int),bkB A N (a++b) l i=bkB A N b (bkB A N a l i) (i+(htB a:Int))
 |[],b,l,i=>by simp[bkB,htB]
 |s::a,b,l,i=>by
  simp only[List.cons_append,bkB,htB]
  rw[aH A N a b]
  congr 1
  omega
theorem Pg {A:Type} {l:List A} {i:Nat} {s:A} (h:l[i]?=some s):l.take (i+1)=l.take i++[s]:=by rw[List.take_add_one,h];rfl
theorem Rh {l:List Sm} {i:Nat} {s:Sm} (h:l[i]?=some s):htB (l.take (i+1))=htB (l.take i)+htS s:=by rw[Pg h,UX];simp[htB]
theorem B2H {l:List Sm} {i:Nat} {s:Sm} (h:l[i]?=some s) (A:List Al) (N:List Nt) (L:List (List UInt8)) (j:Int):bkB A N (l.take (i+1)) L j=bkS A N s (bkB A N (l.take i) L j) (j+(htB (l.take i):Int)):=by rw[Pg h,aH];simp[bkB]
theorem y5 (l:List Sm) (i:Nat):htB (l.take i)≤htB l:=by
 have:=UX (l.take i) (l.drop i)
 rw[List.take_append_drop]at this;omega
theorem gu {l:List Sm} {i:Nat} {s:Sm} (h:l[i]?=some s):htB (l.take i)+htS s≤htB l:=by
 rw[← Rh h];exact y5 l (i+1)
theorem rh (s:Sm):1≤htS s:=by
 cases s;simp only[htS];split
 ·omega
 split<;>omega
theorem cb (x y:List UInt8) (e f:Ex) (c:Cd) (ar:List Ar) (th el:List Sm) (no:Int):htS (.mk 10 x y e f c ar th el no)=1+(htB th+1)+(if el.isEmpty=true then 0 else htB el+1):=by simp only[htS];rfl
theorem lB (x y:List UInt8) (e f:Ex) (c:Cd) (ar:List Ar) (th el:List Sm) (no:Int):htS (.mk 11 x y e f c ar th el no)=1+(htB th+1):=by simp only[htS];rfl
theorem htx {k:Int} (h1:(k==10)=false) (h2:(k==11)=false) (x y:List UInt8) (e f:Ex) (c:Cd) (ar:List Ar) (th el:List Sm) (no:Int):htS (.mk k x y e f c ar th el no)=1:=by simp only[htS,h1,h2];rfl
theorem y7 (k:Int):k=10∨k=11∨((k==10)=false∧(k==11)=false):=by simp only[beq_eq_false_iff_ne];omega
theorem Ql (l:List Sm):decide ((0:Int)<((l.length:Nat):Int)) = !l.isEmpty:=by
 cases l with
 |nil=>rfl
 |cons a l=>simp only[List.length_cons,List.isEmpty_cons,Bool.not_false,decide_eq_true_eq];omega
abbrev VP (n:Nat) (m:Nat) (l:List Sm):Prop:=okB n m l∧htB l≤10000
abbrev K7 (n:Nat) (m:Nat) (l:List Sm):SV:=.one (.v (.int .i64 (htB l:Int)))
noncomputable abbrev Ph:ArgC ((List Sm)×Unit):=(acS (cSs) ac0)
abbrev MP (n:Nat) (m:Nat):Prop:=AP Tryz.prog 55 Ph (fun p:(List Sm)×Unit=>VP n m p.1) (fun p:(List Sm)×Unit=>K7 n m p.1)
theorem gv (n:Nat) (m:Nat):∀p:(List Sm)×Unit,((fun p:(List Sm)×Unit=>K7 n m p.1) p).names=[]:=by intro p;first|rfl|exact B8 _|exact BN _
noncomputable def K8 {X:Ctx} {w0:World} (n:Nat) (m:Nat) (h:MP n m):Sy.Spec Tryz.prog X w0:=Am 55 Tryz.call55 Ph (fun p:(List Sm)×Unit=>VP n m p.1) (fun p:(List Sm)×Unit=>K7 n m p.1) (gv n m) h
attribute [local go_sem] Sm.ar Sm.c Sm.cd Sm.e Sm.el Sm.f Sm.k Sm.no Sm.th Sm.x Sm.y KW KV K8 aF
theorem gx (n:Nat) (m:Nat) (hE:MP n m):MP n (m+1):=by
 rintro ⟨l,_u⟩ w fz xs hc hfz hl hx
 refine A9 Tryz.func55 rfl w fz [(K8 n m hE)] [] Ph (fun p:(List Sm)×Unit=>K7 n (m+1) p.1) _ xs hfz hl hx (jN rfl) ?_
 clear hx hl hfz xs
 simp only[Tryz.f55]
 obtain⟨⟨hl,hk⟩,hh⟩:=hc
 dsimp only at hl hk hh
 simp only[↓eB,seval,go_sem]
 refine AH (Y:=Nat) (fun z=>z≤l.length)
  (fun z=>⟨[(3,true,.one (.v (.int .i64 (htB (l.take z):Int)))),(6,true,.one (.d (.sl zSm (l.map Sm.r)))),(7,true,.one (.v (.int .i64 (l.length:Int)))),(8,true,.one (.v (.int .i64 (z:Int))))],[]⟩)
  (fun z=>l.length-z) 0 (Nat.zero_le _) ?_ ?_
 ·refine A4 [] ?_;simp only[↓eB,seval,go_sem,htB]
 ·rintro i hi
  refine Ab [K8 n m hE] [] _ _ _ ?_
  cases hx:l[i]? with
  |none=>
   have h2:=List.getElem?_eq_none_iff.1 hx
   have h1:=Ao h2
   have h3:l.take i=l:=List.take_of_length_le h2
   simp only[↓eB,seval,go_sem,h1,h3]
   try simp only[A1,A2]
   repeat' first|exact ck|with_reducible apply And.intro|intro _
   all_goals first|exact trivial|(rename_i h;first|exact oI h|exact nah h)|(rename_i _ h _ g;exact sL h g)|decide|omega|(refine A0 [] ?_;simp only[↓eB,seval,go_sem,bne,K7])
  |some s=>
   have hlt:i<l.length:=(List.getElem?_eq_some_iff.1 hx).1
   have h1:=Ah hlt
   have h2:=AX hlt
   have h2':=AM (n:=l.length) (Nat.le_of_lt hlt) (by omega)
   obtain⟨g0,g1,g2⟩:=hk s (List.mem_of_getElem? hx)
   have b1:=gu hx
   have b2:=Rh hx
   obtain⟨k,x,y,e,f,c,ar,th,el,no⟩:=s
   simp only[Sm.th,Sm.el]at g1 g2
   have h3:=aG hx
   obtain⟨u,hu⟩:∃u,htB (l.take i)=u:=⟨_,rfl⟩
   rw[hu]at b1 b2
   have w1:IntKind.i64.wrap ((u:Int)+1)=((u+1:Nat):Int):=by rw[wrap_i64 (by omega) (by omega)];omega
   rcases y7 k with rfl|rfl|⟨k1,k2⟩
   ·rw[cb]at b1 b2
    have w2:IntKind.i64.wrap ((htB th:Int)+1)=((htB th+1:Nat):Int):=by rw[wrap_i64 (by omega) (by omega)];omega
    have w3:IntKind.i64.wrap (((u+1:Nat):Int)+((htB th+1:Nat):Int))=((u+1+(htB th+1):Nat):Int):=by rw[wrap_i64 (by omega) (by omega)];omega
    have c1:htB th≤10000:=by omega
    cases he:el.isEmpty with
    |true=>
     have b3:htB (l.take (i+1))=u+1+(htB th+1):=by rw[b2,he,if_pos rfl];omega
     have b4:decide ((0:Int)<((el.length:Nat):Int))=false:=by rw[Ql,he];rfl
     simp only[↓eB,seval,go_sem,h1,h2,h2',h3,hu,w1,w2,w3,b4]
     try simp only[A1,A2]
     repeat' first|exact ck|with_reducible apply And.intro|intro _
     all_goals try first|exact hlt|exact g1|exact g2|exact c1|(rename_i h;first|exact oI h|exact nah h)|(rename_i _ h _ g;exact sL h g)|decide|omega
     refine⟨i+1,hlt,by omega,A4 [] ?_⟩
     simp only[↓eB,seval,go_sem,b3]
    |false=>
     rw[he,if_neg (by decide)]at b1
     have b3:htB (l.take (i+1))=u+1+(htB th+1)+(htB el+1):=by rw[b2,he,if_neg (by decide)];omega
     have b4:decide ((0:Int)<((el.length:Nat):Int))=true:=by rw[Ql,he];rfl
     have c2:htB el≤10000:=by omega
     have w4:IntKind.i64.wrap ((htB el:Int)+1)=((htB el+1:Nat):Int):=by rw[wrap_i64 (by omega) (by omega)];omega
     have w5:IntKind.i64.wrap (((u+1+(htB th+1):Nat):Int)+((htB el+1:Nat):Int))=((u+1+(htB th+1)+(htB el+1):Nat):Int):=by rw[wrap_i64 (by omega) (by omega)];omega
     simp only[↓eB,seval,go_sem,h1,h2,h2',h3,hu,w1,w2,w3,w4,w5,b4]
     try simp only[A1,A2]
     repeat' first|exact ck|with_reducible apply And.intro|intro _
     all_goals try first|exact hlt|exact g1|exact g2|exact c1|exact c2|(rename_i h;first|exact oI h|exact nah h)|(rename_i _ h _ g;exact sL h g)|decide|omega
     refine⟨i+1,hlt,by omega,A4 [] ?_⟩
     simp only[↓eB,seval,go_sem,b3]
   ·rw[lB]at b1 b2
    have w2:IntKind.i64.wrap ((htB th:Int)+1)=((htB th+1:Nat):Int):=by rw[wrap_i64 (by omega) (by omega)];omega
    have w3:IntKind.i64.wrap (((u+1:Nat):Int)+((htB th+1:Nat):Int))=((u+1+(htB th+1):Nat):Int):=by rw[wrap_i64 (by omega) (by omega)];omega
    have c1:htB th≤10000:=by omega
    have b3:htB (l.take (i+1))=u+1+(htB th+1):=by rw[b2];omega
    simp only[↓eB,seval,go_sem,h1,h2,h2',h3,hu,w1,w2,w3]
    try simp only[A1,A2]
    repeat' first|exact ck|with_reducible apply And.intro|intro _
    all_goals try first|exact hlt|exact g1|exact c1|(rename_i h;first|exact oI h|exact nah h)|(rename_i _ h _ g;exact sL h g)|decide|omega
    refine⟨i+1,hlt,by omega,A4 [] ?_⟩
    simp only[↓eB,seval,go_sem,b3]
   ·rw[htx k1 k2]at b2
    simp only[↓eB,seval,go_sem,h1,h2,h2',h3,hu,w1,k1,k2]
    try simp only[A1,A2]
    repeat' first|exact ck|with_reducible apply And.intro|intro _
    all_goals try first|exact hlt|(rename_i h;first|exact oI h|exact nah h)|(rename_i _ h _ g;exact sL h g)|decide|omega
    refine⟨i+1,hlt,by omega,A4 [] ?_⟩
    simp only[↓eB,seval,go_sem,b2]
theorem Xs (n:Nat):∀m:Nat,MP n m
 |0=>by
  rintro ⟨l,_u⟩ w fz xs hc hfz hl hx
  exact hc.1.elim
 |m+1=>gx n m (Xs n m)
end Go.Proofs.YtbiepiggmagfcaaGreatDoor
namespace Go.Proofs.YtbiepiggmagfcaaGreatDoor
open Go Go.Sy Go.Shelf Go.RowKit
theorem lC (l:List (List UInt8)) (i:Int) (t:List UInt8):(extL l i t).length=l.length:=by unfold extL;split<;>simp
theorem ri {l:List (List UInt8)} {c:Nat} (h:∀x∈l,x.length≤c) (i:Int) (t:List UInt8):∀x∈extL l i t,x.length≤c+t.length:=by
 intro x hx
 unfold extL at hx
 split at hx
 ·rename_i hb
  rcases List.mem_or_eq_of_mem_set hx with h1|h1
  ·have:=h x h1;omega
  ·subst h1
   have h2:(l.getD i.toNat []).length≤c:=by
    cases e:l[i.toNat]? with
    |none=>simp[List.getD,e]
    |some y=>simp only[List.getD,e,Option.getD_some];exact h y (List.mem_of_getElem? e)
   rw[List.length_append];omega
 ·have:=h x hx;omega
theorem Lv (A:List Al) (N:List Nt) (l:List (List UInt8)) (i t:Int):(addL A N l i t).length=l.length:=by
 unfold addL;split
 ·rfl
 ·exact lC _ _ _
theorem aI {A:List Al} {N:List Nt} (h1:A.length≤1000) (h2:N.length≤1000) {l:List (List UInt8)} {c:Nat} (h:∀x∈l,x.length≤c) (i t:Int):∀x∈addL A N l i t,x.length≤c+20000:=by
 intro x hx
 unfold addL at hx
 split at hx
 ·have:=h x hx;omega
 ·have:=ri h i _ x hx
  have:=OU h1 h2 t
  simp only[jL3]at *;omega
mutual
theorem rj (A:List Al) (N:List Nt):∀(s:Sm) (l:List (List UInt8)) (i:Int),(bkS A N s l i).length=l.length
 | .mk k x y e f c ar th el no,l,i=>by
  simp only[bkS]
  repeat' split
  ·rw[HV A N th,Lv]
  ·rw[HV A N el,HV A N th,Lv]
  ·rw[HV A N th,Lv]
  ·rw[Lv]
theorem HV (A:List Al) (N:List Nt):∀(b:List Sm) (l:List (List UInt8)) (i:Int),(bkB A N b l i).length=l.length
 |[],l,i=>rfl
 |s::r,l,i=>by simp only[bkB];rw[HV A N r,rj A N s]
end
mutual
theorem y8 {A:List Al} {N:List Nt} (h1:A.length≤1000) (h2:N.length≤1000):∀(s:Sm) {l:List (List UInt8)} {c:Nat} (i:Int),(∀x∈l,x.length≤c)→∀x∈bkS A N s l i,x.length≤c+20000*htS s
 | .mk k x y e f cd ar th el no,l,c,i,h=>by
  have a:=aI h1 h2 h i no
  have b:=Pi h1 h2 th (i+1) a
  simp only[bkS,htS]
  repeat' split
  ·intro x hx;have:=b x hx;omega
  ·intro x hx
   have:=Pi h1 h2 el (i+1+(htB th:Int)+1) b x hx
   omega
  ·intro x hx;have:=b x hx;omega
  ·intro x hx;have:=a x hx;omega
theorem Pi {A:List Al} {N:List Nt} (h1:A.length≤1000) (h2:N.length≤1000):∀(b:List Sm) {l:List (List UInt8)} {c:Nat} (i:Int),(∀x∈l,x.length≤c)→∀x∈bkB A N b l i,x.length≤c+20000*htB b
 |[],l,c,i,h=>fun x hx=>by have:=h x hx;omega
 |s::r,l,c,i,h=>by
  intro x hx
  have:=Pi h1 h2 r (i+(htS s:Int)) (y8 h1 h2 s i h) x hx
  simp only[htB];omega
end
def Xt (p:Rp) (h:Nat):Prop:=p.l.length≤1000000∧p.a.length≤1000∧p.n.length≤1000∧(∀x∈p.l,x.length+20000*h≤1000000000)
abbrev I6 (n:Nat) (m:Nat) (p:Rp) (l:List Sm) (i:Int):Prop:=okB n m l∧htB l≤10000∧Xt p (htB l)∧0≤i∧i+(htB l:Int)≤10000000
abbrev I7 (n:Nat) (m:Nat) (p:Rp) (l:List Sm) (i:Int):SV:=.one (.v (.int .i64 (i+(htB l:Int))))
abbrev Em (n:Nat) (m:Nat) (p:Rp) (l:List Sm) (i:Int):List (Option MV):=[some (zRp,[({ p with l:=bkB p.a p.n l p.l i }:Rp).c])]
noncomputable abbrev En:ArgM ((Rp)×(List Sm)×(Int)×Unit):=(amP (mRp) (amD (cSs) (amD (cInt .i64) am0)))
abbrev KY (n:Nat) (m:Nat):Prop:=BD Tryz.prog 54 ((En).args 0) (En).mem (fun p:(Rp)×(List Sm)×(Int)×Unit=>I6 n m p.1 p.2.1 p.2.2.1) (fun p:(Rp)×(List Sm)×(Int)×Unit=>I7 n m p.1 p.2.1 p.2.2.1) (fun p:(Rp)×(List Sm)×(Int)×Unit=>Em n m p.1 p.2.1 p.2.2.1)
theorem cf (n:Nat) (m:Nat):∀p,(fun p:(Rp)×(List Sm)×(Int)×Unit=>I6 n m p.1 p.2.1 p.2.2.1) p→BA ((En).mem p).length ((fun p:(Rp)×(List Sm)×(Int)×Unit=>Em n m p.1 p.2.1 p.2.2.1) p)=true:=by intro p _;rfl
theorem cg (n:Nat) (m:Nat):∀p,(fun p:(Rp)×(List Sm)×(Int)×Unit=>I6 n m p.1 p.2.1 p.2.2.1) p→AQ ((fun p:(Rp)×(List Sm)×(Int)×Unit=>Em n m p.1 p.2.1 p.2.2.1) p).length ((fun p:(Rp)×(List Sm)×(Int)×Unit=>I7 n m p.1 p.2.1 p.2.2.1) p)=true:=by intro p _;rfl
theorem ci (n:Nat) (m:Nat):∀p,(fun p:(Rp)×(List Sm)×(Int)×Unit=>I6 n m p.1 p.2.1 p.2.2.1) p→∀q,some q∈(fun p:(Rp)×(List Sm)×(Int)×Unit=>Em n m p.1 p.2.1 p.2.2.1) p→∀r∈q.2,∀c∈r,c.names=[]:=by intro p _;exact TK _
noncomputable def I8 {X:Ctx} {w0:World} (n:Nat) (m:Nat) (h:KY n m):Sy.Spec Tryz.prog X w0:=Be 54 Tryz.call54 (En) (fun p:(Rp)×(List Sm)×(Int)×Unit=>I6 n m p.1 p.2.1 p.2.2.1) (fun p:(Rp)×(List Sm)×(Int)×Unit=>I7 n m p.1 p.2.1 p.2.2.1) (fun p:(Rp)×(List Sm)×(Int)×Unit=>Em n m p.1 p.2.1 p.2.2.1) (cf n m) (cg n m) (ci n m) h
attribute [local go_sem] Rp.c Sm.ar Sm.c Sm.cd Sm.e Sm.el Sm.f Sm.k Sm.no Sm.th Sm.x Sm.y KW KV TI TJ WJ WI sR1 I8 Rg zRp aF zSs
theorem cj (n:Nat) (m:Nat) (hE:KY n m):KY n (m+1):=by
 rintro ⟨p,l,i,_u⟩ w M I lab fz xs hc hA hl hx
 refine AJ Tryz.func54 rfl _ w M I lab fz [Rg,(I8 n m hE)] [] _ _ _ xs hA hl hx (fun v hv k hk=>by have:=(En).an 0 ⟨p,l,i,_u⟩ v hv k hk;omega) (jN rfl) (jN rfl) ?_
 clear hx hl hA xs
 simp only[Tryz.f54]
 obtain⟨⟨hl,hk⟩,hh,hp,hi0,hi1⟩:=hc
 obtain⟨L,A,N⟩:=p
 dsimp only at hl hk hh hp hi0 hi1
 obtain⟨hp1,hp2,hp3,hp4⟩:=hp
 dsimp only at hp1 hp2 hp3 hp4
 have hc0:∀x∈L,x.length≤1000000000-20000*htB l:=fun x hx=>by have:=hp4 x hx;omega
 simp only[↓eB,seval,go_sem]
 refine AH (Y:=Nat) (fun z=>z≤l.length)
  (fun z=>⟨[(0,true,.one (.p 0 0 0)),(2,true,.one (.v (.int .i64 (i+(htB (l.take z):Int))))),(9,true,.one (.d (.sl zSm (l.map Sm.r)))),(10,true,.one (.v (.int .i64 (l.length:Int)))),(11,true,.one (.v (.int .i64 (z:Int))))],[(0,.vec 0 zRp [(Rp.mk (bkB A N (l.take z) L i) A N).c])]⟩)
  (fun z=>l.length-z) 0 (Nat.zero_le _) ?_ ?_
 ·refine A4 [] ?_;simp only[↓eB,seval,go_sem,htB,bkB,Int.add_zero]
 ·rintro z hz
  refine Ab [Rg,I8 n m hE] [] _ _ _ ?_
  cases hx:l[z]? with
  |none=>
   have h2:=List.getElem?_eq_none_iff.1 hx
   have h1:=Ao h2
   have h3:l.take z=l:=List.take_of_length_le h2
   simp only[↓eB,seval,go_sem,h1,h3]
   try simp only[A1,A2]
   repeat' first|exact ck|with_reducible apply And.intro|intro _
   all_goals first|exact trivial|(rename_i h;first|exact oI h|exact nah h)|(rename_i _ h _ g;exact sL h g)|decide|omega|(refine A0 [] ?_;simp only[↓eB,seval,go_sem,bne,I7,Em])
  |some s=>
   have hlt:z<l.length:=(List.getElem?_eq_some_iff.1 hx).1
   have h1:=Ah hlt
   have h2:=AX hlt
   have h2':=AM (n:=l.length) (Nat.le_of_lt hlt) (by omega)
   obtain⟨g0,g1,g2⟩:=hk s (List.mem_of_getElem? hx)
   have b1:=gu hx
   have b2:=Rh hx
   have b5:=B2H hx A N L i
   have le1:=Pi hp2 hp3 (l.take z) i hc0
   have ln1:=HV A N (l.take z) L i
   obtain⟨k,x,y,e,f,c,ar,th,el,no⟩:=s
   simp only[Sm.th,Sm.el]at g1 g2
   have h3:=aG hx
   obtain⟨u,hu⟩:∃u,htB (l.take z)=u:=⟨_,rfl⟩
   obtain⟨L1,hL1⟩:∃L1,bkB A N (l.take z) L i=L1:=⟨_,rfl⟩
   rw[hu]at b1 b2 le1 b5
   rw[hL1]at b5 le1 ln1
   have le2:=aI hp2 hp3 le1 (i+(u:Int)) no
   have ln2:=Lv A N L1 (i+(u:Int)) no
   have hpos:=rh (.mk k x y e f c ar th el no)
   have a1:L1.length≤1000000:=by omega
   have a2:∀x∈L1,x.length+20000≤1000000000:=fun x hx=>by have:=le1 x hx;omega
   have w1:IntKind.i64.wrap (i+(u:Int)+1)=i+(u:Int)+1:=by rw[wrap_i64 (by omega) (by omega)]
   rcases y7 k with rfl|rfl|⟨k1,k2⟩
   ·rw[cb]at b1 b2
    have c1:htB th≤10000:=by omega
    have c3:Xt ⟨addL A N L1 (i+(u:Int)) no,A,N⟩ (htB th):=⟨by dsimp only;omega,hp2,hp3,fun x hx=>by have:=le2 x hx;omega⟩
    have c4:0≤i+(u:Int)+1:=by omega
    have c5:i+(u:Int)+1+(htB th:Int)≤10000000:=by omega
    have w2:IntKind.i64.wrap (i+(u:Int)+1+(htB th:Int)+1)=i+(u:Int)+1+(htB th:Int)+1:=by rw[wrap_i64 (by omega) (by omega)]
    cases he:el.isEmpty with
    |true=>
     have b3:htB (l.take (z+1))=u+(1+(htB th+1)):=by rw[b2,he,if_pos rfl];rfl
     have b4:decide ((0:Int)<((el.length:Nat):Int))=false:=by rw[Ql,he];rfl
     have b6:bkB A N (l.take (z+1)) L i=bkB A N th (addL A N L1 (i+(u:Int)) no) (i+(u:Int)+1):=by
      rw[b5];simp only[bkS,he];rfl
     have b7:i+(u:Int)+1+(htB th:Int)+1=i+((u+(1+(htB th+1)):Nat):Int):=by omega
     simp only[↓eB,seval,go_sem,h1,h2,h2',h3,hu,hL1,w1,w2,b4]
     try simp only[A1,A2]
     repeat' first|exact ck|with_reducible apply And.intro|intro _
     all_goals try first|exact hlt|exact g1|exact g2|exact c1|exact c3|exact c4|exact c5|exact a1|exact a2|exact hp2|exact hp3|(exact a2 _ (by assumption))|(rename_i h;first|exact oI h|exact nah h)|(rename_i _ h _ g;exact sL h g)|decide|omega
     refine⟨z+1,hlt,by omega,A4 [] ?_⟩
     simp only[↓eB,seval,go_sem,b3,b6,← b7]
    |false=>
     rw[he,if_neg (by decide)]at b1
     have le3:=Pi hp2 hp3 th (i+(u:Int)+1) le2
     have ln3:=HV A N th (addL A N L1 (i+(u:Int)) no) (i+(u:Int)+1)
     have b3:htB (l.take (z+1))=u+(1+(htB th+1)+(htB el+1)):=by rw[b2,he,if_neg (by decide)]
     have b4:decide ((0:Int)<((el.length:Nat):Int))=true:=by rw[Ql,he];rfl
     have b6:bkB A N (l.take (z+1)) L i=bkB A N el (bkB A N th (addL A N L1 (i+(u:Int)) no) (i+(u:Int)+1)) (i+(u:Int)+1+(htB th:Int)+1):=by
      rw[b5];simp only[bkS,he];rfl
     have b7:i+(u:Int)+1+(htB th:Int)+1+(htB el:Int)+1=i+((u+(1+(htB th+1)+(htB el+1)):Nat):Int):=by omega
     have d1:htB el≤10000:=by omega
     have d3:Xt ⟨bkB A N th (addL A N L1 (i+(u:Int)) no) (i+(u:Int)+1),A,N⟩ (htB el):=⟨by dsimp only;omega,hp2,hp3,fun x hx=>by have:=le3 x hx;omega⟩
     have d4:0≤i+(u:Int)+1+(htB th:Int)+1:=by omega
     have d5:i+(u:Int)+1+(htB th:Int)+1+(htB el:Int)≤10000000:=by omega
     have w3:IntKind.i64.wrap (i+(u:Int)+1+(htB th:Int)+1+(htB el:Int)+1)=i+(u:Int)+1+(htB th:Int)+1+(htB el:Int)+1:=by rw[wrap_i64 (by omega) (by omega)]
     simp only[↓eB,seval,go_sem,h1,h2,h2',h3,hu,hL1,w1,w2,w3,b4]
     try simp only[A1,A2]
     repeat' first|exact ck|with_reducible apply And.intro|intro _
     all_goals try first|exact hlt|exact g1|exact g2|exact c1|exact c3|exact c4|exact c5|exact d1|exact d3|exact d4|exact d5|exact a1|exact a2|exact hp2|exact hp3|(exact a2 _ (by assumption))|(rename_i h;first|exact oI h|exact nah h)|(rename_i _ h _ g;exact sL h g)|decide|omega
     refine⟨z+1,hlt,by omega,A4 [] ?_⟩
     simp only[↓eB,seval,go_sem,b3,b6,← b7]
   ·rw[lB]at b1 b2
    have c1:htB th≤10000:=by omega
    have c3:Xt ⟨addL A N L1 (i+(u:Int)) no,A,N⟩ (htB th):=⟨by dsimp only;omega,hp2,hp3,fun x hx=>by have:=le2 x hx;omega⟩
    have c4:0≤i+(u:Int)+1:=by omega
    have c5:i+(u:Int)+1+(htB th:Int)≤10000000:=by omega
    have w2:IntKind.i64.wrap (i+(u:Int)+1+(htB th:Int)+1)=i+(u:Int)+1+(htB th:Int)+1:=by rw[wrap_i64 (by omega) (by omega)]
    have b3:htB (l.take (z+1))=u+(1+(htB th+1)):=b2
    have b6:bkB A N (l.take (z+1)) L i=bkB A N th (addL A N L1 (i+(u:Int)) no) (i+(u:Int)+1):=by
     rw[b5];simp only[bkS];rfl
    have b7:i+(u:Int)+1+(htB th:Int)+1=i+((u+(1+(htB th+1)):Nat):Int):=by omega
    simp only[↓eB,seval,go_sem,h1,h2,h2',h3,hu,hL1,w1,w2]
    try simp only[A1,A2]
    repeat' first|exact ck|with_reducible apply And.intro|intro _
    all_goals try first|exact hlt|exact g1|exact c1|exact c3|exact c4|exact c5|exact a1|exact a2|exact hp2|exact hp3|(exact a2 _ (by assumption))|(rename_i h;first|exact oI h|exact nah h)|(rename_i _ h _ g;exact sL h g)|decide|omega
    refine⟨z+1,hlt,by omega,A4 [] ?_⟩
    simp only[↓eB,seval,go_sem,b3,b6,← b7]
   ·rw[htx k1 k2]at b2
    have b6:bkB A N (l.take (z+1)) L i=addL A N L1 (i+(u:Int)) no:=by
     rw[b5];simp only[bkS];rw[if_neg (by rw[k1];decide),if_neg (by rw[k2];decide)]
    have b7:i+(u:Int)+1=i+((u+1:Nat):Int):=by omega
    simp only[↓eB,seval,go_sem,h1,h2,h2',h3,hu,hL1,w1,k1,k2]
    try simp only[A1,A2]
    repeat' first|exact ck|with_reducible apply And.intro|intro _
    all_goals try first|exact hlt|exact a1|exact a2|exact hp2|exact hp3|(exact a2 _ (by assumption))|(rename_i h;first|exact oI h|exact nah h)|(rename_i _ h _ g;exact sL h g)|decide|omega
    refine⟨z+1,hlt,by omega,A4 [] ?_⟩
    simp only[↓eB,seval,go_sem,b2,b6,← b7]
theorem VQ (n:Nat):∀m:Nat,KY n m
 |0=>by
  rintro ⟨p,l,i,_u⟩ w M I lab fz xs hc hA hl hx
  exact hc.1.elim
 |m+1=>cj n m (VQ n m)
end Go.Proofs.YtbiepiggmagfcaaGreatDoor
