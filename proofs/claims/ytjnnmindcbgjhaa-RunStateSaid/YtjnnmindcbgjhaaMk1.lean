/- The maker's small functions. No conditions but those in each statement. -/
import Derived.Test.YtjnnmindcbgjhaaMi1
set_option linter.unusedVariables false
set_option linter.unusedSimpArgs false
open List (mem_of_getElem?)
namespace Go.Proofs.Ytjnnmindcbgjhaa
open Go Go.Sy Go.RowKit
structure Mk where
 b:List Int
 i:Int
 n:Int
theorem Dg (p:Mk):(⟨p.b,p.i,p.n⟩:Mk)=p:=rfl
def byD (x:Int):List D:=[.v (.int .u8 x)]
def zBy:List D:=[.v (.int .u8 0)]
def Mk.c (p:Mk):List C:=[.d (.sl zBy (p.b.map byD)),.v (.int .i64 p.i),.v (.int .i64 p.n)]
abbrev zMk:List C:=[.v (.int .i64 0),.v (.int .i64 0),.v (.int .i64 0)]
theorem cm (a b:Int) (h:byD a=byD b):a=b:=by simpa [byD] using h
theorem Z0 (a b:Mk) (h:a.c=b.c):a=b:=by
 obtain⟨l,i,n⟩:=a
 obtain⟨l',i',n'⟩:=b
 simp only[Mk.c,List.cons.injEq,C.v.injEq,C.d.injEq,D.sl.injEq,Value.int.injEq,true_and,and_true]at h
 obtain⟨h1,rfl,rfl⟩:=h
 rw[Az cm h1]
theorem cn (p:Mk):∀c∈p.c,c.names=[]:=by
 intro c hc
 simp only[Mk.c,List.mem_cons,List.not_mem_nil,or_false]at hc
 rcases hc with rfl|rfl|rfl<;>rfl
noncomputable def mMk:RowM Mk:=MD zMk Mk.c cn
theorem Ej:mMk.z=zMk:=rfl
theorem Ek:mMk.e=Mk.c:=rfl
theorem El (l:List Int) (i n:Int):mMk.d [.d (.sl [.v (.int .u8 0)] (l.map byD)),.v (.int .i64 i),.v (.int .i64 n)]=some ⟨l,i,n⟩:=Hc Z0 ⟨l,i,n⟩
theorem KQ (p:Mk):∀q,some q∈[some ((zMk,[p.c]):MV)]→∀r∈q.2,∀c∈r,c.names=[]:=by
 intro q hq r hr c hc
 simp only[List.mem_singleton,jS]at hq
 subst hq
 simp only[List.mem_singleton]at hr
 subst hr
 exact cn p c hc
theorem A0r (l:List Int) (i:Nat):(l.map byD).getD i [.v (.int .u8 0)]=byD (l.getD i 0):=by
 simp only[List.getD,List.getElem?_map]
 cases l[i]?<;>rfl
theorem Ly (l:List (List UInt8)) (i:Nat):(l.map cS).getD i [.v (.string (bs []))]=cS (l.getD i []):=by
 simp only[List.getD,List.getElem?_map]
 cases l[i]?<;>rfl
def numT:List (List UInt8):=[[48],[49],[50],[51],[52],[49,48],[57,50,50,51,51,55,50,48,51,54,56,53,52,55,55,53,56,48,55],[55]]
theorem DF (i:Nat):([[.v (.string (bs [48]))],[.v (.string (bs [49]))],[.v (.string (bs [50]))],[.v (.string (bs [51]))],[.v (.string (bs [52]))],[.v (.string (bs [49,48]))],[.v (.string (bs [57,50,50,51,51,55,50,48,51,54,56,53,52,55,55,53,56,48,55]))],[.v (.string (bs [55]))]]:List (List C)).getD i [.v (.string (bs []))]=[.v (.string (bs (numT.getD i [])))]:=Ly numT i
theorem gK (i:Nat):(numT.getD i []).length≤19:=by
 simp only[List.getD]
 cases h:numT[i]? with
 |none=>exact Nat.zero_le _
 |some x=>exact(by decide:∀x∈numT,x.length≤19) x (mem_of_getElem? h)
def ivT:List (List UInt8):=[[97],[98],[120],[99],[100],[97]]
theorem Dw (i:Nat):([[.v (.string (bs [97]))],[.v (.string (bs [98]))],[.v (.string (bs [120]))],[.v (.string (bs [99]))],[.v (.string (bs [100]))],[.v (.string (bs [97]))]]:List (List C)).getD i [.v (.string (bs []))]=[.v (.string (bs (ivT.getD i [])))]:=Ly ivT i
theorem mO (i:Nat):(ivT.getD i []).length≤1:=by
 simp only[List.getD]
 cases h:ivT[i]? with
 |none=>exact Nat.zero_le _
 |some x=>exact(by decide:∀x∈ivT,x.length≤1) x (mem_of_getElem? h)
def opT:List (List UInt8):=[[43],[45],[42],[47],[37]]
theorem Dx (i:Nat):([[.v (.string (bs [43]))],[.v (.string (bs [45]))],[.v (.string (bs [42]))],[.v (.string (bs [47]))],[.v (.string (bs [37]))]]:List (List C)).getD i [.v (.string (bs []))]=[.v (.string (bs (opT.getD i [])))]:=Ly opT i
theorem Z1 (i:Nat):(opT.getD i []).length≤1:=by
 simp only[List.getD]
 cases h:opT[i]? with
 |none=>exact Nat.zero_le _
 |some x=>exact(by decide:∀x∈opT,x.length≤1) x (mem_of_getElem? h)
def cmT:List (List UInt8):=[[60],[60,61],[62],[62,61],[61,61],[33,61]]
theorem Dy (i:Nat):([[.v (.string (bs [60]))],[.v (.string (bs [60,61]))],[.v (.string (bs [62]))],[.v (.string (bs [62,61]))],[.v (.string (bs [61,61]))],[.v (.string (bs [33,61]))]]:List (List C)).getD i [.v (.string (bs []))]=[.v (.string (bs (cmT.getD i [])))]:=Ly cmT i
theorem Ui (i:Nat):(cmT.getD i []).length≤2:=by
 simp only[List.getD]
 cases h:cmT[i]? with
 |none=>exact Nat.zero_le _
 |some x=>exact(by decide:∀x∈cmT,x.length≤2) x (mem_of_getElem? h)
def cdT:List (List UInt8):=[[99],[100]]
theorem Dz (i:Nat):([[.v (.string (bs [99]))],[.v (.string (bs [100]))]]:List (List C)).getD i [.v (.string (bs []))]=[.v (.string (bs (cdT.getD i [])))]:=Ly cdT i
theorem Z2 (i:Nat):(cdT.getD i []).length≤1:=by
 simp only[List.getD]
 cases h:cdT[i]? with
 |none=>exact Nat.zero_le _
 |some x=>exact(by decide:∀x∈cdT,x.length≤1) x (mem_of_getElem? h)
def nqT:List (List UInt8):=[[110,117,108,108],[113]]
theorem E0 (i:Nat):([[.v (.string (bs [110,117,108,108]))],[.v (.string (bs [113]))]]:List (List C)).getD i [.v (.string (bs []))]=[.v (.string (bs (nqT.getD i [])))]:=Ly nqT i
theorem Z3 (i:Nat):(nqT.getD i []).length≤4:=by
 simp only[List.getD]
 cases h:nqT[i]? with
 |none=>exact Nat.zero_le _
 |some x=>exact(by decide:∀x∈nqT,x.length≤4) x (mem_of_getElem? h)
def tuT:List (List UInt8):=[[116],[117]]
theorem E1 (i:Nat):([[.v (.string (bs [116]))],[.v (.string (bs [117]))]]:List (List C)).getD i [.v (.string (bs []))]=[.v (.string (bs (tuT.getD i [])))]:=Ly tuT i
theorem Rf (i:Nat):(tuT.getD i []).length≤1:=by
 simp only[List.getD]
 cases h:tuT[i]? with
 |none=>exact Nat.zero_le _
 |some x=>exact(by decide:∀x∈tuT,x.length≤1) x (mem_of_getElem? h)
def eqT:List (List UInt8):=[[32,61,61,32,110,117,108,108],[32,33,61,32,110,117,108,108]]
theorem E2 (i:Nat):([[.v (.string (bs [32,61,61,32,110,117,108,108]))],[.v (.string (bs [32,33,61,32,110,117,108,108]))]]:List (List C)).getD i [.v (.string (bs []))]=[.v (.string (bs (eqT.getD i [])))]:=Ly eqT i
theorem Uj (i:Nat):(eqT.getD i []).length≤8:=by
 simp only[List.getD]
 cases h:eqT[i]? with
 |none=>exact Nat.zero_le _
 |some x=>exact(by decide:∀x∈eqT,x.length≤8) x (mem_of_getElem? h)
def hdT:List (List UInt8):=[[102,110,32,102,40,120,41],[102,110,32,103,40,120,44,32,121,41],[102,110,32,104,40,42,112,41],[102,110,32,107,40,120,44,32,42,112,41]]
theorem E3 (i:Nat):([[.v (.string (bs [102,110,32,102,40,120,41]))],[.v (.string (bs [102,110,32,103,40,120,44,32,121,41]))],[.v (.string (bs [102,110,32,104,40,42,112,41]))],[.v (.string (bs [102,110,32,107,40,120,44,32,42,112,41]))]]:List (List C)).getD i [.v (.string (bs []))]=[.v (.string (bs (hdT.getD i [])))]:=Ly hdT i
theorem Z4 (i:Nat):(hdT.getD i []).length≤11:=by
 simp only[List.getD]
 cases h:hdT[i]? with
 |none=>exact Nat.zero_le _
 |some x=>exact(by decide:∀x∈hdT,x.length≤11) x (mem_of_getElem? h)
def nmT:List (List UInt8):=[[102],[103],[104],[107]]
theorem E4 (i:Nat):([[.v (.string (bs [102]))],[.v (.string (bs [103]))],[.v (.string (bs [104]))],[.v (.string (bs [107]))]]:List (List C)).getD i [.v (.string (bs []))]=[.v (.string (bs (nmT.getD i [])))]:=Ly nmT i
theorem mP (i:Nat):(nmT.getD i []).length≤1:=by
 simp only[List.getD]
 cases h:nmT[i]? with
 |none=>exact Nat.zero_le _
 |some x=>exact(by decide:∀x∈nmT,x.length≤1) x (mem_of_getElem? h)
def okM (m:Mk) (c:Int):Prop:=0≤m.i∧m.i+c≤4294967296∧∀x∈m.b,0≤x∧x<256
def Sd (m:Mk):Int:=if decide (m.i<(m.b.length:Int))=true then w64i (m.b.getD m.i.toNat 0) else 0
def nxM (m:Mk):Mk:={ m with i:=w64i (m.i+1) }
def nxV (j:Int) (m:Mk):Int:=(Sd m).tmod j
structure Ax (m q:Mk) (c:Int):Prop where
 lo:m.i≤q.i
 hi:q.i≤m.i+c
 b:q.b=m.b
theorem Ax.refl (m:Mk):Ax m m 0:=⟨Int.le_refl _,by omega,rfl⟩
theorem Ax.trans {m q r:Mk} {c d:Int} (h:Ax m q c) (h':Ax q r d):Ax m r (c+d):=⟨Int.le_trans h.lo h'.lo,by have:=h.hi;have:=h'.hi;omega,h'.b.trans h.b⟩
theorem Ax.mono {m q:Mk} {c d:Int} (h:Ax m q c) (hd:c≤d):Ax m q d:=⟨h.lo,by have:=h.hi;omega,h.b⟩
theorem Ax.ok {m q:Mk} {c d:Int} (h:Ax m q c) (ho:okM m (c+d)):okM q d:=⟨by have:=h.lo;have:=ho.1;omega,by have:=h.hi;have:=ho.2.1;omega,by rw[h.b];exact ho.2.2⟩
theorem okM.mono {m:Mk} {c d:Int} (h:okM m c) (hd:d≤c):okM m d:=⟨h.1,by have:=h.2.1;omega,h.2.2⟩
theorem Ba {m:Mk} (h:okM m 1):Ax m (nxM m) 1:=by
 have h1:=h.1;have h2:=h.2.1
 have e:(nxM m).i=m.i+1:=wrap_i64 (by omega) (by omega)
 exact⟨by omega,by omega,rfl⟩
theorem uL {m:Mk} {c:Int} (h:okM m c):0≤Sd m:=by
 unfold Sd
 split
 ·have h3:0≤m.b.getD m.i.toNat 0∧m.b.getD m.i.toNat 0<256:=by
   simp only[List.getD]
   cases e:m.b[m.i.toNat]? with
   |none=>simp
   |some x=>exact h.2.2 x (mem_of_getElem? e)
  have e:w64i (m.b.getD m.i.toNat 0)=m.b.getD m.i.toNat 0:=wrap_i64 (by omega) (by omega)
  rw[e];exact h3.1
 ·exact Int.le_refl _
theorem D2 {m:Mk} {c j:Int} (h:okM m c) (hj:0<j):0≤nxV j m∧nxV j m<j:=by
 have h1:=uL h
 exact⟨Int.tmod_nonneg j h1,Int.tmod_lt_of_pos _ hj⟩
abbrev On (m:Mk) (j:Int):Prop:=okM m 1∧j≠0
abbrev Mi (m:Mk) (j:Int):SV:=.one (.v (.int .i64 (nxV j m)))
abbrev KB (m:Mk) (j:Int):List (Option MV):=[some (zMk,[(nxM m).c])]
noncomputable abbrev L7:ArgM ((Mk)×(Int)×Unit):=(amP (mMk) (amD (cInt .i64) am0))
abbrev mQ:Prop:=Bt Try.prog 68 ((L7).args 0) (L7).mem (fun p:(Mk)×(Int)×Unit=>On p.1 p.2.1) (fun p:(Mk)×(Int)×Unit=>Mi p.1 p.2.1) (fun p:(Mk)×(Int)×Unit=>KB p.1 p.2.1)
theorem mR:∀p,(fun p:(Mk)×(Int)×Unit=>On p.1 p.2.1) p→Cn ((L7).mem p).length ((fun p:(Mk)×(Int)×Unit=>KB p.1 p.2.1) p)=true:=by intro p _;rfl
theorem mS:∀p,(fun p:(Mk)×(Int)×Unit=>On p.1 p.2.1) p→Av ((fun p:(Mk)×(Int)×Unit=>KB p.1 p.2.1) p).length ((fun p:(Mk)×(Int)×Unit=>Mi p.1 p.2.1) p)=true:=by intro p _;first|rfl|exact AO _ _|exact AP _ _|(simp[Av,C0,AO,AP];done)
theorem mT:∀p,(fun p:(Mk)×(Int)×Unit=>On p.1 p.2.1) p→∀q,some q∈(fun p:(Mk)×(Int)×Unit=>KB p.1 p.2.1) p→∀r∈q.2,∀c∈r,c.names=[]:=by intro p _;exact KQ _
attribute [local go_sem] Mk.c byD A0r Dz Dy E2 E3 Dw El Ek Ej Dg E4 E0 DF Dx E1 zBy
theorem uM:mQ:=by
 rintro ⟨m,j,_u⟩ w M I lab fz xs hc hA hl hx
 refine An Try.func68 rfl ((L7).mem ⟨m,j,_u⟩) w M I lab fz [] [] ((L7).args 0 ⟨m,j,_u⟩) ((fun p:(Mk)×(Int)×Unit=>KB p.1 p.2.1) ⟨m,j,_u⟩) ((fun p:(Mk)×(Int)×Unit=>Mi p.1 p.2.1) ⟨m,j,_u⟩) xs hA hl hx (fun v hv k hk=>by have:=(L7).an 0 ⟨m,j,_u⟩ v hv k hk;omega) (jN rfl) (jN rfl) ?_
 clear hx hl hA xs
 simp only[Try.f68]
 obtain⟨h0,hk⟩:=hc
 dsimp only at h0 hk
 have h1:=h0.1
 cases hd:decide (m.i<(m.b.length:Int)) with
 |true=>
  have hd2:=of_decide_eq_true hd
  have hr:Sd m=w64i (m.b.getD m.i.toNat 0):=by simp only[Sd];rw[if_pos hd]
  simp only[↓eB,seval,go_sem,hd]
  try simp only[A3,A4]
  repeat' first|exact ck|with_reducible apply And.intro|intro _
  all_goals first|exact h1|(rename_i h;first|exact oI h|exact nah h)|(rename_i _ h _ g;exact sL h g)|decide|omega|(refine A0 [] ?_;simp only[↓eB,seval,go_sem,bne,Mi,KB,nxV,nxM,hr])
 |false=>
  have hr:Sd m=0:=by simp only[Sd];rw[if_neg (by rw[hd];decide)]
  simp only[↓eB,seval,go_sem,hd]
  try simp only[A3,A4]
  repeat' first|exact ck|with_reducible apply And.intro|intro _
  all_goals first|exact h1|(rename_i h;first|exact oI h|exact nah h)|(rename_i _ h _ g;exact sL h g)|decide|omega|(refine A0 [] ?_;simp only[↓eB,seval,go_sem,bne,Mi,KB,nxV,nxM,hr])
noncomputable def Bl {X:Ctx} {w0:World}:Sy.Spec Try.prog X w0:=Ca 68 Try.call68 (L7) (fun p:(Mk)×(Int)×Unit=>On p.1 p.2.1) (fun p:(Mk)×(Int)×Unit=>Mi p.1 p.2.1) (fun p:(Mk)×(Int)×Unit=>KB p.1 p.2.1) mR mS mT uM
abbrev T:=List UInt8×Mk
def nuT (m:Mk):T:=(numT.getD (nxV 8 m).toNat [],nxM m)
def Ao (m:Mk):T:=(ivT.getD (nxV 6 m).toNat [],nxM m)
def pvT (s:Int) (m:Mk):T:=if decide (2≤s.tmod 4)=true then (if (nxV 2 m==0)=true then ([112],nxM m) else ([113],nxM m)) else ([113],m)
abbrev Qo (m:Mk):Prop:=okM m 1
abbrev Qp (m:Mk):SV:=.one (.v (.string (bs (nuT m).1)))
abbrev NE (m:Mk):List (Option MV):=[some (zMk,[(nuT m).2.c])]
noncomputable abbrev NF:ArgM ((Mk)×Unit):=(amP (mMk) am0)
abbrev uN:Prop:=Bt Try.prog 79 ((NF).args 0) (NF).mem (fun p:(Mk)×Unit=>Qo p.1) (fun p:(Mk)×Unit=>Qp p.1) (fun p:(Mk)×Unit=>NE p.1)
theorem uO:∀p,(fun p:(Mk)×Unit=>Qo p.1) p→Cn ((NF).mem p).length ((fun p:(Mk)×Unit=>NE p.1) p)=true:=by intro p _;rfl
theorem uP:∀p,(fun p:(Mk)×Unit=>Qo p.1) p→Av ((fun p:(Mk)×Unit=>NE p.1) p).length ((fun p:(Mk)×Unit=>Qp p.1) p)=true:=by intro p _;first|rfl|exact AO _ _|exact AP _ _|(simp[Av,C0,AO,AP];done)
theorem uQ:∀p,(fun p:(Mk)×Unit=>Qo p.1) p→∀q,some q∈(fun p:(Mk)×Unit=>NE p.1) p→∀r∈q.2,∀c∈r,c.names=[]:=by intro p _;exact KQ _
theorem A0s:uN:=by
 rintro ⟨m,_u⟩ w M I lab fz xs hc hA hl hx
 refine An Try.func79 rfl ((NF).mem ⟨m,_u⟩) w M I lab fz [Bl] [] ((NF).args 0 ⟨m,_u⟩) ((fun p:(Mk)×Unit=>NE p.1) ⟨m,_u⟩) ((fun p:(Mk)×Unit=>Qp p.1) ⟨m,_u⟩) xs hA hl hx (fun v hv k hk=>by have:=(NF).an 0 ⟨m,_u⟩ v hv k hk;omega) (jN rfl) (jN rfl) ?_
 clear hx hl hA xs
 simp only[Try.f79]
 have h0:okM m 1:=hc
 have h1:=D2 (j:=8) h0 (by decide)
 simp only[↓eB,seval,go_sem,Bl]
 try simp only[A3,A4]
 repeat' first|exact ck|with_reducible apply And.intro|intro _
 all_goals first|exact h0|exact h1|(rename_i h;first|exact oI h|exact nah h)|(rename_i _ h _ g;exact sL h g)|decide|omega|(refine A0 [] ?_;simp only[↓eB,seval,go_sem,bne,Qp,NE,nuT])
noncomputable def KR {X:Ctx} {w0:World}:Sy.Spec Try.prog X w0:=Ca 79 Try.call79 (NF) (fun p:(Mk)×Unit=>Qo p.1) (fun p:(Mk)×Unit=>Qp p.1) (fun p:(Mk)×Unit=>NE p.1) uO uP uQ A0s
abbrev Oo (m:Mk):Prop:=okM m 1
abbrev Oq (m:Mk):SV:=.one (.v (.string (bs (Ao m).1)))
abbrev L8 (m:Mk):List (Option MV):=[some (zMk,[(Ao m).2.c])]
noncomputable abbrev L9:ArgM ((Mk)×Unit):=(amP (mMk) am0)
abbrev mU:Prop:=Bt Try.prog 70 ((L9).args 0) (L9).mem (fun p:(Mk)×Unit=>Oo p.1) (fun p:(Mk)×Unit=>Oq p.1) (fun p:(Mk)×Unit=>L8 p.1)
theorem mV:∀p,(fun p:(Mk)×Unit=>Oo p.1) p→Cn ((L9).mem p).length ((fun p:(Mk)×Unit=>L8 p.1) p)=true:=by intro p _;rfl
theorem mW:∀p,(fun p:(Mk)×Unit=>Oo p.1) p→Av ((fun p:(Mk)×Unit=>L8 p.1) p).length ((fun p:(Mk)×Unit=>Oq p.1) p)=true:=by intro p _;first|rfl|exact AO _ _|exact AP _ _|(simp[Av,C0,AO,AP];done)
theorem mY:∀p,(fun p:(Mk)×Unit=>Oo p.1) p→∀q,some q∈(fun p:(Mk)×Unit=>L8 p.1) p→∀r∈q.2,∀c∈r,c.names=[]:=by intro p _;exact KQ _
theorem uR:mU:=by
 rintro ⟨m,_u⟩ w M I lab fz xs hc hA hl hx
 refine An Try.func70 rfl ((L9).mem ⟨m,_u⟩) w M I lab fz [Bl] [] ((L9).args 0 ⟨m,_u⟩) ((fun p:(Mk)×Unit=>L8 p.1) ⟨m,_u⟩) ((fun p:(Mk)×Unit=>Oq p.1) ⟨m,_u⟩) xs hA hl hx (fun v hv k hk=>by have:=(L9).an 0 ⟨m,_u⟩ v hv k hk;omega) (jN rfl) (jN rfl) ?_
 clear hx hl hA xs
 simp only[Try.f70]
 have h0:okM m 1:=hc
 have h1:=D2 (j:=6) h0 (by decide)
 simp only[↓eB,seval,go_sem,Bl]
 try simp only[A3,A4]
 repeat' first|exact ck|with_reducible apply And.intro|intro _
 all_goals first|exact h0|exact h1|(rename_i h;first|exact oI h|exact nah h)|(rename_i _ h _ g;exact sL h g)|decide|omega|(refine A0 [] ?_;simp only[↓eB,seval,go_sem,bne,Oq,L8,Ao])
noncomputable def D5 {X:Ctx} {w0:World}:Sy.Spec Try.prog X w0:=Ca 70 Try.call70 (L9) (fun p:(Mk)×Unit=>Oo p.1) (fun p:(Mk)×Unit=>Oq p.1) (fun p:(Mk)×Unit=>L8 p.1) mV mW mY uR
abbrev Ot (m:Mk) (s:Int):Prop:=okM m 1
abbrev LA (m:Mk) (s:Int):SV:=.one (.v (.string (bs (pvT s m).1)))
abbrev J9 (m:Mk) (s:Int):List (Option MV):=[some (zMk,[(pvT s m).2.c])]
noncomputable abbrev LB:ArgM ((Mk)×(Int)×Unit):=(amP (mMk) (amD (cInt .i64) am0))
abbrev mZ:Prop:=Bt Try.prog 81 ((LB).args 0) (LB).mem (fun p:(Mk)×(Int)×Unit=>Ot p.1 p.2.1) (fun p:(Mk)×(Int)×Unit=>LA p.1 p.2.1) (fun p:(Mk)×(Int)×Unit=>J9 p.1 p.2.1)
theorem mc:∀p,(fun p:(Mk)×(Int)×Unit=>Ot p.1 p.2.1) p→Cn ((LB).mem p).length ((fun p:(Mk)×(Int)×Unit=>J9 p.1 p.2.1) p)=true:=by intro p _;rfl
theorem mf:∀p,(fun p:(Mk)×(Int)×Unit=>Ot p.1 p.2.1) p→Av ((fun p:(Mk)×(Int)×Unit=>J9 p.1 p.2.1) p).length ((fun p:(Mk)×(Int)×Unit=>LA p.1 p.2.1) p)=true:=by intro p _;first|rfl|exact AO _ _|exact AP _ _|(simp[Av,C0,AO,AP];done)
theorem mg:∀p,(fun p:(Mk)×(Int)×Unit=>Ot p.1 p.2.1) p→∀q,some q∈(fun p:(Mk)×(Int)×Unit=>J9 p.1 p.2.1) p→∀r∈q.2,∀c∈r,c.names=[]:=by intro p _;exact KQ _
theorem uS:mZ:=by
 rintro ⟨m,s,_u⟩ w M I lab fz xs hc hA hl hx
 refine An Try.func81 rfl ((LB).mem ⟨m,s,_u⟩) w M I lab fz [Bl] [] ((LB).args 0 ⟨m,s,_u⟩) ((fun p:(Mk)×(Int)×Unit=>J9 p.1 p.2.1) ⟨m,s,_u⟩) ((fun p:(Mk)×(Int)×Unit=>LA p.1 p.2.1) ⟨m,s,_u⟩) xs hA hl hx (fun v hv k hk=>by have:=(LB).an 0 ⟨m,s,_u⟩ v hv k hk;omega) (jN rfl) (jN rfl) ?_
 clear hx hl hA xs
 simp only[Try.f81]
 have h0:okM m 1:=hc
 have h1:=D2 (j:=2) h0 (by decide)
 cases h2:decide (2≤s.tmod 4) with
 |true=>
  cases h3:(nxV 2 m==0) with
  |true=>
   have hr:pvT s m=([112],nxM m):=by simp only[pvT];rw[if_pos h2,if_pos h3]
   simp only[↓eB,seval,go_sem,Bl,h2,h3]
   try simp only[A3,A4]
   repeat' first|exact ck|with_reducible apply And.intro|intro _
   all_goals first|exact h0|exact h1|(rename_i h;first|exact oI h|exact nah h)|(rename_i _ h _ g;exact sL h g)|decide|omega|(refine A0 [] ?_;simp only[↓eB,seval,go_sem,bne,LA,J9,hr])
  |false=>
   have hr:pvT s m=([113],nxM m):=by simp only[pvT];rw[if_pos h2,if_neg (by rw[h3];decide)]
   simp only[↓eB,seval,go_sem,Bl,h2,h3]
   try simp only[A3,A4]
   repeat' first|exact ck|with_reducible apply And.intro|intro _
   all_goals first|exact h0|exact h1|(rename_i h;first|exact oI h|exact nah h)|(rename_i _ h _ g;exact sL h g)|decide|omega|(refine A0 [] ?_;simp only[↓eB,seval,go_sem,bne,LA,J9,hr])
 |false=>
  have hr:pvT s m=([113],m):=by simp only[pvT];rw[if_neg (by rw[h2];decide)]
  simp only[↓eB,seval,go_sem,Bl,h2]
  try simp only[A3,A4]
  repeat' first|exact ck|with_reducible apply And.intro|intro _
  all_goals first|exact h0|exact h1|(rename_i h;first|exact oI h|exact nah h)|(rename_i _ h _ g;exact sL h g)|decide|omega|(refine A0 [] ?_;simp only[↓eB,seval,go_sem,bne,LA,J9,hr])
noncomputable def Hv {X:Ctx} {w0:World}:Sy.Spec Try.prog X w0:=Ca 81 Try.call81 (LB) (fun p:(Mk)×(Int)×Unit=>Ot p.1 p.2.1) (fun p:(Mk)×(Int)×Unit=>LA p.1 p.2.1) (fun p:(Mk)×(Int)×Unit=>J9 p.1 p.2.1) mc mf mg uS
end Go.Proofs.Ytjnnmindcbgjhaa
