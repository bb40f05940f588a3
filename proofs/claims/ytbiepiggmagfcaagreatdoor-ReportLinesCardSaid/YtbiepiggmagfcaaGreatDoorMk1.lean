/- The maker's small functions. No conditions but those in each statement. -/
import Derived.Test.YtbiepiggmagfcaaGreatDoorSh1
set_option linter.unusedVariables false
set_option linter.unusedSimpArgs false
open List (length_append length_cons length_nil mem_of_getElem?)
namespace Go.Proofs.YtbiepiggmagfcaaGreatDoor
open Go Go.Sy Go.RowKit
structure Mk where
 b:List Int
 i:Int
 n:Int
theorem Oz (p:Mk):(⟨p.b,p.i,p.n⟩:Mk)=p:=rfl
def byD (x:Int):List D:=[.v (.int .u8 x)]
def zBy:List D:=[.v (.int .u8 0)]
def Mk.c (p:Mk):List C:=[.d (.sl zBy (p.b.map byD)),.v (.int .i64 p.i),.v (.int .i64 p.n)]
abbrev zMk:List C:=[.v (.int .i64 0),.v (.int .i64 0),.v (.int .i64 0)]
theorem ej (a b:Int) (h:byD a=byD b):a=b:=by simpa [byD] using h
theorem Z6 (a b:Mk) (h:a.c=b.c):a=b:=by
 obtain⟨l,i,n⟩:=a
 obtain⟨l',i',n'⟩:=b
 simp only[Mk.c,List.cons.injEq,C.v.injEq,C.d.injEq,D.sl.injEq,Value.int.injEq,true_and,and_true]at h
 obtain⟨h1,rfl,rfl⟩:=h
 rw[Bh ej h1]
theorem ek (p:Mk):∀c∈p.c,c.names=[]:=by
 intro c hc
 simp only[Mk.c,List.mem_cons,List.not_mem_nil,or_false]at hc
 rcases hc with rfl|rfl|rfl<;>rfl
noncomputable def mMk:RowM Mk:=KB zMk Mk.c ek
theorem SF:mMk.z=zMk:=rfl
theorem SG:mMk.e=Mk.c:=rfl
theorem SH (l:List Int) (i n:Int):mMk.d [.d (.sl [.v (.int .u8 0)] (l.map byD)),.v (.int .i64 i),.v (.int .i64 n)]=some ⟨l,i,n⟩:=Fs Z6 ⟨l,i,n⟩
theorem Hj (p:Mk):∀q,some q∈[some ((zMk,[p.c]):MV)]→∀r∈q.2,∀c∈r,c.names=[]:=by
 intro q hq r hr c hc
 simp only[List.mem_singleton,jS]at hq
 subst hq
 simp only[List.mem_singleton]at hr
 subst hr
 exact ek p c hc
theorem A2F (l:List Int) (i:Nat):(l.map byD).getD i [.v (.int .u8 0)]=byD (l.getD i 0):=by
 simp only[List.getD,List.getElem?_map]
 cases l[i]?<;>rfl
theorem JX (l:List (List UInt8)) (i:Nat):(l.map cS).getD i [.v (.string (bs []))]=cS (l.getD i []):=by
 simp only[List.getD,List.getElem?_map]
 cases l[i]?<;>rfl
def numT:List (List UInt8):=[[48],[49],[50],[51],[52],[49,48],[57,50,50,51,51,55,50,48,51,54,56,53,52,55,55,53,56,48,55],[55]]
theorem Mt (i:Nat):([[.v (.string (bs [48]))],[.v (.string (bs [49]))],[.v (.string (bs [50]))],[.v (.string (bs [51]))],[.v (.string (bs [52]))],[.v (.string (bs [49,48]))],[.v (.string (bs [57,50,50,51,51,55,50,48,51,54,56,53,52,55,55,53,56,48,55]))],[.v (.string (bs [55]))]]:List (List C)).getD i [.v (.string (bs []))]=[.v (.string (bs (numT.getD i [])))]:=JX numT i
theorem jV (i:Nat):(numT.getD i []).length≤19:=by
 simp only[List.getD]
 cases h:numT[i]? with
 |none=>exact Nat.zero_le _
 |some x=>exact(by decide:∀x∈numT,x.length≤19) x (mem_of_getElem? h)
def ivT:List (List UInt8):=[[97],[98],[120],[99],[100],[97]]
theorem P0 (i:Nat):([[.v (.string (bs [97]))],[.v (.string (bs [98]))],[.v (.string (bs [120]))],[.v (.string (bs [99]))],[.v (.string (bs [100]))],[.v (.string (bs [97]))]]:List (List C)).getD i [.v (.string (bs []))]=[.v (.string (bs (ivT.getD i [])))]:=JX ivT i
theorem oo (i:Nat):(ivT.getD i []).length≤1:=by
 simp only[List.getD]
 cases h:ivT[i]? with
 |none=>exact Nat.zero_le _
 |some x=>exact(by decide:∀x∈ivT,x.length≤1) x (mem_of_getElem? h)
def opT:List (List UInt8):=[[43],[45],[42],[47],[37]]
theorem P1 (i:Nat):([[.v (.string (bs [43]))],[.v (.string (bs [45]))],[.v (.string (bs [42]))],[.v (.string (bs [47]))],[.v (.string (bs [37]))]]:List (List C)).getD i [.v (.string (bs []))]=[.v (.string (bs (opT.getD i [])))]:=JX opT i
theorem U0 (i:Nat):(opT.getD i []).length≤1:=by
 simp only[List.getD]
 cases h:opT[i]? with
 |none=>exact Nat.zero_le _
 |some x=>exact(by decide:∀x∈opT,x.length≤1) x (mem_of_getElem? h)
def cmT:List (List UInt8):=[[60],[60,61],[62],[62,61],[61,61],[33,61]]
theorem P2 (i:Nat):([[.v (.string (bs [60]))],[.v (.string (bs [60,61]))],[.v (.string (bs [62]))],[.v (.string (bs [62,61]))],[.v (.string (bs [61,61]))],[.v (.string (bs [33,61]))]]:List (List C)).getD i [.v (.string (bs []))]=[.v (.string (bs (cmT.getD i [])))]:=JX cmT i
theorem U1 (i:Nat):(cmT.getD i []).length≤2:=by
 simp only[List.getD]
 cases h:cmT[i]? with
 |none=>exact Nat.zero_le _
 |some x=>exact(by decide:∀x∈cmT,x.length≤2) x (mem_of_getElem? h)
def cdT:List (List UInt8):=[[99],[100]]
theorem P3 (i:Nat):([[.v (.string (bs [99]))],[.v (.string (bs [100]))]]:List (List C)).getD i [.v (.string (bs []))]=[.v (.string (bs (cdT.getD i [])))]:=JX cdT i
theorem Z7 (i:Nat):(cdT.getD i []).length≤1:=by
 simp only[List.getD]
 cases h:cdT[i]? with
 |none=>exact Nat.zero_le _
 |some x=>exact(by decide:∀x∈cdT,x.length≤1) x (mem_of_getElem? h)
def nqT:List (List UInt8):=[[110,117,108,108],[113]]
theorem P4 (i:Nat):([[.v (.string (bs [110,117,108,108]))],[.v (.string (bs [113]))]]:List (List C)).getD i [.v (.string (bs []))]=[.v (.string (bs (nqT.getD i [])))]:=JX nqT i
theorem Z8 (i:Nat):(nqT.getD i []).length≤4:=by
 simp only[List.getD]
 cases h:nqT[i]? with
 |none=>exact Nat.zero_le _
 |some x=>exact(by decide:∀x∈nqT,x.length≤4) x (mem_of_getElem? h)
def tuT:List (List UInt8):=[[116],[117]]
theorem P5 (i:Nat):([[.v (.string (bs [116]))],[.v (.string (bs [117]))]]:List (List C)).getD i [.v (.string (bs []))]=[.v (.string (bs (tuT.getD i [])))]:=JX tuT i
theorem QI (i:Nat):(tuT.getD i []).length≤1:=by
 simp only[List.getD]
 cases h:tuT[i]? with
 |none=>exact Nat.zero_le _
 |some x=>exact(by decide:∀x∈tuT,x.length≤1) x (mem_of_getElem? h)
def eqT:List (List UInt8):=[[32,61,61,32,110,117,108,108],[32,33,61,32,110,117,108,108]]
theorem P6 (i:Nat):([[.v (.string (bs [32,61,61,32,110,117,108,108]))],[.v (.string (bs [32,33,61,32,110,117,108,108]))]]:List (List C)).getD i [.v (.string (bs []))]=[.v (.string (bs (eqT.getD i [])))]:=JX eqT i
theorem U2 (i:Nat):(eqT.getD i []).length≤8:=by
 simp only[List.getD]
 cases h:eqT[i]? with
 |none=>exact Nat.zero_le _
 |some x=>exact(by decide:∀x∈eqT,x.length≤8) x (mem_of_getElem? h)
def hdT:List (List UInt8):=[[102,110,32,102,40,120,41],[102,110,32,103,40,120,44,32,121,41],[102,110,32,104,40,42,112,41],[102,110,32,107,40,120,44,32,42,112,41]]
theorem P7 (i:Nat):([[.v (.string (bs [102,110,32,102,40,120,41]))],[.v (.string (bs [102,110,32,103,40,120,44,32,121,41]))],[.v (.string (bs [102,110,32,104,40,42,112,41]))],[.v (.string (bs [102,110,32,107,40,120,44,32,42,112,41]))]]:List (List C)).getD i [.v (.string (bs []))]=[.v (.string (bs (hdT.getD i [])))]:=JX hdT i
theorem Z9 (i:Nat):(hdT.getD i []).length≤11:=by
 simp only[List.getD]
 cases h:hdT[i]? with
 |none=>exact Nat.zero_le _
 |some x=>exact(by decide:∀x∈hdT,x.length≤11) x (mem_of_getElem? h)
def nmT:List (List UInt8):=[[102],[103],[104],[107]]
theorem P8 (i:Nat):([[.v (.string (bs [102]))],[.v (.string (bs [103]))],[.v (.string (bs [104]))],[.v (.string (bs [107]))]]:List (List C)).getD i [.v (.string (bs []))]=[.v (.string (bs (nmT.getD i [])))]:=JX nmT i
theorem ot (i:Nat):(nmT.getD i []).length≤1:=by
 simp only[List.getD]
 cases h:nmT[i]? with
 |none=>exact Nat.zero_le _
 |some x=>exact(by decide:∀x∈nmT,x.length≤1) x (mem_of_getElem? h)
def okM (m:Mk) (c:Int):Prop:=0≤m.i∧m.i+c≤4294967296∧∀x∈m.b,0≤x∧x<256
def Ny (m:Mk):Int:=if decide (m.i<(m.b.length:Int))=true then Ad (m.b.getD m.i.toNat 0) else 0
def nxM (m:Mk):Mk:={ m with i:=Ad (m.i+1) }
def nxV (j:Int) (m:Mk):Int:=(Ny m).tmod j
structure Ax (m q:Mk) (c:Int):Prop where
 lo:m.i≤q.i
 hi:q.i≤m.i+c
 b:q.b=m.b
theorem Ax.refl (m:Mk):Ax m m 0:=⟨Int.le_refl _,by omega,rfl⟩
theorem Ax.trans {m q r:Mk} {c d:Int} (h:Ax m q c) (h':Ax q r d):Ax m r (c+d):=⟨Int.le_trans h.lo h'.lo,by have:=h.hi;have:=h'.hi;omega,h'.b.trans h.b⟩
theorem Ax.mono {m q:Mk} {c d:Int} (h:Ax m q c) (hd:c≤d):Ax m q d:=⟨h.lo,by have:=h.hi;omega,h.b⟩
theorem Ax.ok {m q:Mk} {c d:Int} (h:Ax m q c) (ho:okM m (c+d)):okM q d:=⟨by have:=h.lo;have:=ho.1;omega,by have:=h.hi;have:=ho.2.1;omega,by rw[h.b];exact ho.2.2⟩
theorem okM.mono {m:Mk} {c d:Int} (h:okM m c) (hd:d≤c):okM m d:=⟨h.1,by have:=h.2.1;omega,h.2.2⟩
theorem Aq {m:Mk} (h:okM m 1):Ax m (nxM m) 1:=by
 have h1:=h.1;have h2:=h.2.1
 have e:(nxM m).i=m.i+1:=wrap_i64 (by omega) (by omega)
 exact⟨by omega,by omega,rfl⟩
theorem w8 {m:Mk} {c:Int} (h:okM m c):0≤Ny m:=by
 unfold Ny
 split
 ·have h3:0≤m.b.getD m.i.toNat 0∧m.b.getD m.i.toNat 0<256:=by
   simp only[List.getD]
   cases e:m.b[m.i.toNat]? with
   |none=>simp
   |some x=>exact h.2.2 x (mem_of_getElem? e)
  have e:Ad (m.b.getD m.i.toNat 0)=m.b.getD m.i.toNat 0:=wrap_i64 (by omega) (by omega)
  rw[e];exact h3.1
 ·exact Int.le_refl _
theorem Bu {m:Mk} {c j:Int} (h:okM m c) (hj:0<j):0≤nxV j m∧nxV j m<j:=by
 have h1:=w8 h
 exact⟨Int.tmod_nonneg j h1,Int.tmod_lt_of_pos _ hj⟩
abbrev Mu (m:Mk) (j:Int):Prop:=okM m 1∧j≠0
abbrev Ko (m:Mk) (j:Int):SV:=.one (.v (.int .i64 (nxV j m)))
abbrev HJ (m:Mk) (j:Int):List (Option MV):=[some (zMk,[(nxM m).c])]
noncomputable abbrev IY:ArgM ((Mk)×(Int)×Unit):=(amP (mMk) (amD (cInt .i64) am0))
abbrev ou:Prop:=BD Tryz.prog 39 ((IY).args 0) (IY).mem (fun p:(Mk)×(Int)×Unit=>Mu p.1 p.2.1) (fun p:(Mk)×(Int)×Unit=>Ko p.1 p.2.1) (fun p:(Mk)×(Int)×Unit=>HJ p.1 p.2.1)
theorem ow:∀p,(fun p:(Mk)×(Int)×Unit=>Mu p.1 p.2.1) p→BA ((IY).mem p).length ((fun p:(Mk)×(Int)×Unit=>HJ p.1 p.2.1) p)=true:=by intro p _;rfl
theorem oz:∀p,(fun p:(Mk)×(Int)×Unit=>Mu p.1 p.2.1) p→AQ ((fun p:(Mk)×(Int)×Unit=>HJ p.1 p.2.1) p).length ((fun p:(Mk)×(Int)×Unit=>Ko p.1 p.2.1) p)=true:=by intro p _;first|rfl|exact AK _ _|exact AL _ _|(simp[AQ,Bn,AK,AL];done)
theorem pB:∀p,(fun p:(Mk)×(Int)×Unit=>Mu p.1 p.2.1) p→∀q,some q∈(fun p:(Mk)×(Int)×Unit=>HJ p.1 p.2.1) p→∀r∈q.2,∀c∈r,c.names=[]:=by intro p _;exact Hj _
attribute [local go_sem] Mk.c byD A2F P3 P2 P6 P7 P0 SH SG SF Oz P8 P4 Mt P1 P5 zBy
theorem w9:ou:=by
 rintro ⟨m,j,_u⟩ w M I lab fz xs hc hA hl hx
 refine AJ Tryz.func39 rfl _ w M I lab fz [] [] _ _ _ xs hA hl hx (fun v hv k hk=>by have:=(IY).an 0 ⟨m,j,_u⟩ v hv k hk;omega) (jN rfl) (jN rfl) ?_
 clear hx hl hA xs
 simp only[Tryz.f39]
 obtain⟨h0,hk⟩:=hc
 dsimp only at h0 hk
 have h1:=h0.1
 cases hd:decide (m.i<(m.b.length:Int)) with
 |true=>
  have hd2:=of_decide_eq_true hd
  have hr:Ny m=Ad (m.b.getD m.i.toNat 0):=by simp only[Ny];rw[if_pos hd]
  simp only[↓eB,seval,go_sem,hd]
  try simp only[A1,A2]
  repeat' first|exact ck|with_reducible apply And.intro|intro _
  all_goals first|exact h1|(rename_i h;first|exact oI h|exact nah h)|(rename_i _ h _ g;exact sL h g)|decide|omega|(refine A0 [] ?_;simp only[↓eB,seval,go_sem,bne,Ko,HJ,nxV,nxM,hr])
 |false=>
  have hr:Ny m=0:=by simp only[Ny];rw[if_neg (by rw[hd];decide)]
  simp only[↓eB,seval,go_sem,hd]
  try simp only[A1,A2]
  repeat' first|exact ck|with_reducible apply And.intro|intro _
  all_goals first|exact h1|(rename_i h;first|exact oI h|exact nah h)|(rename_i _ h _ g;exact sL h g)|decide|omega|(refine A0 [] ?_;simp only[↓eB,seval,go_sem,bne,Ko,HJ,nxV,nxM,hr])
noncomputable def Bv {X:Ctx} {w0:World}:Sy.Spec Tryz.prog X w0:=Be 39 Tryz.call39 (IY) (fun p:(Mk)×(Int)×Unit=>Mu p.1 p.2.1) (fun p:(Mk)×(Int)×Unit=>Ko p.1 p.2.1) (fun p:(Mk)×(Int)×Unit=>HJ p.1 p.2.1) ow oz pB w9
abbrev T:=List UInt8×Mk
def nuT (m:Mk):T:=(numT.getD (nxV 8 m).toNat [],nxM m)
def A6 (m:Mk):T:=(ivT.getD (nxV 6 m).toNat [],nxM m)
def pvT (s:Int) (m:Mk):T:=if decide (2≤s.tmod 4)=true then (if (nxV 2 m==0)=true then ([112],nxM m) else ([113],nxM m)) else ([113],m)
abbrev P9 (m:Mk):Prop:=okM m 1
abbrev PA (m:Mk):SV:=.one (.v (.string (bs (nuT m).1)))
abbrev LJ (m:Mk):List (Option MV):=[some (zMk,[(nuT m).2.c])]
noncomputable abbrev LK:ArgM ((Mk)×Unit):=(amP (mMk) am0)
abbrev wA:Prop:=BD Tryz.prog 71 ((LK).args 0) (LK).mem (fun p:(Mk)×Unit=>P9 p.1) (fun p:(Mk)×Unit=>PA p.1) (fun p:(Mk)×Unit=>LJ p.1)
theorem wB:∀p,(fun p:(Mk)×Unit=>P9 p.1) p→BA ((LK).mem p).length ((fun p:(Mk)×Unit=>LJ p.1) p)=true:=by intro p _;rfl
theorem wC:∀p,(fun p:(Mk)×Unit=>P9 p.1) p→AQ ((fun p:(Mk)×Unit=>LJ p.1) p).length ((fun p:(Mk)×Unit=>PA p.1) p)=true:=by intro p _;first|rfl|exact AK _ _|exact AL _ _|(simp[AQ,Bn,AK,AL];done)
theorem wD:∀p,(fun p:(Mk)×Unit=>P9 p.1) p→∀q,some q∈(fun p:(Mk)×Unit=>LJ p.1) p→∀r∈q.2,∀c∈r,c.names=[]:=by intro p _;exact Hj _
theorem A2G:wA:=by
 rintro ⟨m,_u⟩ w M I lab fz xs hc hA hl hx
 refine AJ Tryz.func71 rfl _ w M I lab fz [Bv] [] _ _ _ xs hA hl hx (fun v hv k hk=>by have:=(LK).an 0 ⟨m,_u⟩ v hv k hk;omega) (jN rfl) (jN rfl) ?_
 clear hx hl hA xs
 simp only[Tryz.f71]
 have h0:okM m 1:=hc
 have h1:=Bu (j:=8) h0 (by decide)
 simp only[↓eB,seval,go_sem,Bv]
 try simp only[A1,A2]
 repeat' first|exact ck|with_reducible apply And.intro|intro _
 all_goals first|exact h0|exact h1|(rename_i h;first|exact oI h|exact nah h)|(rename_i _ h _ g;exact sL h g)|decide|omega|(refine A0 [] ?_;simp only[↓eB,seval,go_sem,bne,PA,LJ,nuT])
noncomputable def PB {X:Ctx} {w0:World}:Sy.Spec Tryz.prog X w0:=Be 71 Tryz.call71 (LK) (fun p:(Mk)×Unit=>P9 p.1) (fun p:(Mk)×Unit=>PA p.1) (fun p:(Mk)×Unit=>LJ p.1) wB wC wD A2G
abbrev Mv (m:Mk):Prop:=okM m 1
abbrev Mw (m:Mk):SV:=.one (.v (.string (bs (A6 m).1)))
abbrev IZ (m:Mk):List (Option MV):=[some (zMk,[(A6 m).2.c])]
noncomputable abbrev Ia:ArgM ((Mk)×Unit):=(amP (mMk) am0)
abbrev pC:Prop:=BD Tryz.prog 41 ((Ia).args 0) (Ia).mem (fun p:(Mk)×Unit=>Mv p.1) (fun p:(Mk)×Unit=>Mw p.1) (fun p:(Mk)×Unit=>IZ p.1)
theorem pD:∀p,(fun p:(Mk)×Unit=>Mv p.1) p→BA ((Ia).mem p).length ((fun p:(Mk)×Unit=>IZ p.1) p)=true:=by intro p _;rfl
theorem pG:∀p,(fun p:(Mk)×Unit=>Mv p.1) p→AQ ((fun p:(Mk)×Unit=>IZ p.1) p).length ((fun p:(Mk)×Unit=>Mw p.1) p)=true:=by intro p _;first|rfl|exact AK _ _|exact AL _ _|(simp[AQ,Bn,AK,AL];done)
theorem pH:∀p,(fun p:(Mk)×Unit=>Mv p.1) p→∀q,some q∈(fun p:(Mk)×Unit=>IZ p.1) p→∀r∈q.2,∀c∈r,c.names=[]:=by intro p _;exact Hj _
theorem wE:pC:=by
 rintro ⟨m,_u⟩ w M I lab fz xs hc hA hl hx
 refine AJ Tryz.func41 rfl _ w M I lab fz [Bv] [] _ _ _ xs hA hl hx (fun v hv k hk=>by have:=(Ia).an 0 ⟨m,_u⟩ v hv k hk;omega) (jN rfl) (jN rfl) ?_
 clear hx hl hA xs
 simp only[Tryz.f41]
 have h0:okM m 1:=hc
 have h1:=Bu (j:=6) h0 (by decide)
 simp only[↓eB,seval,go_sem,Bv]
 try simp only[A1,A2]
 repeat' first|exact ck|with_reducible apply And.intro|intro _
 all_goals first|exact h0|exact h1|(rename_i h;first|exact oI h|exact nah h)|(rename_i _ h _ g;exact sL h g)|decide|omega|(refine A0 [] ?_;simp only[↓eB,seval,go_sem,bne,Mw,IZ,A6])
noncomputable def F3 {X:Ctx} {w0:World}:Sy.Spec Tryz.prog X w0:=Be 41 Tryz.call41 (Ia) (fun p:(Mk)×Unit=>Mv p.1) (fun p:(Mk)×Unit=>Mw p.1) (fun p:(Mk)×Unit=>IZ p.1) pD pG pH wE
abbrev Mx (m:Mk) (s:Int):Prop:=okM m 1
abbrev Ib (m:Mk) (s:Int):SV:=.one (.v (.string (bs (pvT s m).1)))
abbrev G2 (m:Mk) (s:Int):List (Option MV):=[some (zMk,[(pvT s m).2.c])]
noncomputable abbrev Ie:ArgM ((Mk)×(Int)×Unit):=(amP (mMk) (amD (cInt .i64) am0))
abbrev pI:Prop:=BD Tryz.prog 73 ((Ie).args 0) (Ie).mem (fun p:(Mk)×(Int)×Unit=>Mx p.1 p.2.1) (fun p:(Mk)×(Int)×Unit=>Ib p.1 p.2.1) (fun p:(Mk)×(Int)×Unit=>G2 p.1 p.2.1)
theorem pJ:∀p,(fun p:(Mk)×(Int)×Unit=>Mx p.1 p.2.1) p→BA ((Ie).mem p).length ((fun p:(Mk)×(Int)×Unit=>G2 p.1 p.2.1) p)=true:=by intro p _;rfl
theorem pK:∀p,(fun p:(Mk)×(Int)×Unit=>Mx p.1 p.2.1) p→AQ ((fun p:(Mk)×(Int)×Unit=>G2 p.1 p.2.1) p).length ((fun p:(Mk)×(Int)×Unit=>Ib p.1 p.2.1) p)=true:=by intro p _;first|rfl|exact AK _ _|exact AL _ _|(simp[AQ,Bn,AK,AL];done)
theorem pL:∀p,(fun p:(Mk)×(Int)×Unit=>Mx p.1 p.2.1) p→∀q,some q∈(fun p:(Mk)×(Int)×Unit=>G2 p.1 p.2.1) p→∀r∈q.2,∀c∈r,c.names=[]:=by intro p _;exact Hj _
theorem wF:pI:=by
 rintro ⟨m,s,_u⟩ w M I lab fz xs hc hA hl hx
 refine AJ Tryz.func73 rfl _ w M I lab fz [Bv] [] _ _ _ xs hA hl hx (fun v hv k hk=>by have:=(Ie).an 0 ⟨m,s,_u⟩ v hv k hk;omega) (jN rfl) (jN rfl) ?_
 clear hx hl hA xs
 simp only[Tryz.f73]
 have h0:okM m 1:=hc
 have h1:=Bu (j:=2) h0 (by decide)
 cases h2:decide (2≤s.tmod 4) with
 |true=>
  cases h3:(nxV 2 m==0) with
  |true=>
   have hr:pvT s m=([112],nxM m):=by simp only[pvT];rw[if_pos h2,if_pos h3]
   simp only[↓eB,seval,go_sem,Bv,h2,h3]
   try simp only[A1,A2]
   repeat' first|exact ck|with_reducible apply And.intro|intro _
   all_goals first|exact h0|exact h1|(rename_i h;first|exact oI h|exact nah h)|(rename_i _ h _ g;exact sL h g)|decide|omega|(refine A0 [] ?_;simp only[↓eB,seval,go_sem,bne,Ib,G2,hr])
  |false=>
   have hr:pvT s m=([113],nxM m):=by simp only[pvT];rw[if_pos h2,if_neg (by rw[h3];decide)]
   simp only[↓eB,seval,go_sem,Bv,h2,h3]
   try simp only[A1,A2]
   repeat' first|exact ck|with_reducible apply And.intro|intro _
   all_goals first|exact h0|exact h1|(rename_i h;first|exact oI h|exact nah h)|(rename_i _ h _ g;exact sL h g)|decide|omega|(refine A0 [] ?_;simp only[↓eB,seval,go_sem,bne,Ib,G2,hr])
 |false=>
  have hr:pvT s m=([113],m):=by simp only[pvT];rw[if_neg (by rw[h2];decide)]
  simp only[↓eB,seval,go_sem,Bv,h2]
  try simp only[A1,A2]
  repeat' first|exact ck|with_reducible apply And.intro|intro _
  all_goals first|exact h0|exact h1|(rename_i h;first|exact oI h|exact nah h)|(rename_i _ h _ g;exact sL h g)|decide|omega|(refine A0 [] ?_;simp only[↓eB,seval,go_sem,bne,Ib,G2,hr])
noncomputable def Kq {X:Ctx} {w0:World}:Sy.Spec Tryz.prog X w0:=Be 73 Tryz.call73 (Ie) (fun p:(Mk)×(Int)×Unit=>Mx p.1 p.2.1) (fun p:(Mk)×(Int)×Unit=>Ib p.1 p.2.1) (fun p:(Mk)×(Int)×Unit=>G2 p.1 p.2.1) pJ pK pL wF
end Go.Proofs.YtbiepiggmagfcaaGreatDoor
namespace Go.Proofs.YtbiepiggmagfcaaGreatDoor
open Go Go.Sy Go.RowKit
theorem bO {m:Mk} (h:okM m 1):Ax m (nuT m).2 1:=Aq h
theorem D4 {m:Mk} (h:okM m 1):Ax m (A6 m).2 1:=Aq h
theorem G3 {s:Int} {m:Mk} (h:okM m 1):Ax m (pvT s m).2 1:=by
 unfold pvT
 split
 ·split<;>exact Aq h
 ·exact(Ax.refl m).mono (by decide)
theorem SI (m:Mk):(nuT m).1.length≤19:=jV _
theorem Bp (m:Mk):(A6 m).1.length≤1:=oo _
theorem Dq (s:Int) (m:Mk):(pvT s m).1.length≤1:=by
 unfold pvT
 split
 ·split<;>exact Nat.le_refl _
 ·exact Nat.le_refl _
def A7:Nat→Mk→T
 |0,m=>if decide (nxV 12 m<7)=true then nuT (nxM m) else A6 (nxM m)
 |k+1,m=>
  if decide (nxV 12 m<3)=true then nuT (nxM m)
  else if decide (nxV 12 m<6)=true then A6 (nxM m)
  else if (nxV 12 m==6)=true then ([45]++(A6 (nxM m)).1,(A6 (nxM m)).2)
  else if (nxV 12 m==11)=true then (([40]++(A7 k (nxM m)).1)++[41,32,45,32]++(A6 (A7 k (nxM m)).2).1,(A6 (A7 k (nxM m)).2).2)
  else ((((((A7 k (nxM m)).1++[32])++opT.getD (nxV 5 (A7 k (nxM m)).2).toNat [])++[32])++(A6 (nxM (A7 k (nxM m)).2)).1),(A6 (nxM (A7 k (nxM m)).2)).2)
theorem C6:∀(k:Nat) {m:Mk},okM m (4*((k:Int)+1))→Ax m (A7 k m).2 (4*((k:Int)+1))
 |0,m,h=>by
  have a1:=Aq (h.mono (by decide))
  have o1:okM (nxM m) 1:=a1.ok (h.mono (by decide))
  simp only[A7]
  split
  ·exact(a1.trans (bO o1)).mono (by decide)
  ·exact(a1.trans (D4 o1)).mono (by decide)
 |k+1,m,h=>by
  have a1:=Aq (h.mono (by omega))
  have o1:okM (nxM m) (4*((k:Int)+1)+2):=a1.ok (h.mono (by omega))
  have a2:=C6 k (o1.mono (by omega))
  have o2:okM (A7 k (nxM m)).2 2:=a2.ok (o1.mono (by omega))
  simp only[A7]
  split
  ·exact(a1.trans (bO (o1.mono (by omega)))).mono (by omega)
  split
  ·exact(a1.trans (D4 (o1.mono (by omega)))).mono (by omega)
  split
  ·exact(a1.trans (D4 (o1.mono (by omega)))).mono (by omega)
  split
  ·exact((a1.trans a2).trans (D4 (o2.mono (by omega)))).mono (by omega)
  ·have a3:=Aq (o2.mono (by omega))
   exact(((a1.trans a2).trans a3).trans (D4 (a3.ok (o2.mono (by omega))))).mono (by omega)
theorem BQ:∀(k:Nat) (m:Mk),(A7 k m).1.length≤64*(k+1)
 |0,m=>by
  have h1:=SI (nxM m)
  have h2:=Bp (nxM m)
  simp only[A7]
  split<;>omega
 |k+1,m=>by
  have h1:=SI (nxM m)
  have h2:=Bp (nxM m)
  have h3:=BQ k (nxM m)
  have h4:=Bp (A7 k (nxM m)).2
  have h5:=U0 (nxV 5 (A7 k (nxM m)).2).toNat
  have h6:=Bp (nxM (A7 k (nxM m)).2)
  simp only[A7]
  repeat' split
  all_goals (try simp only[jL3])
  all_goals omega
abbrev My (n:Nat) (m:Mk) (d:Int):Prop:=okM m (4*(d+1))∧0≤d∧d<(n:Int)∧d≤4
abbrev EL (n:Nat) (m:Mk) (d:Int):SV:=.one (.v (.string (bs (A7 d.toNat m).1)))
abbrev DV (n:Nat) (m:Mk) (d:Int):List (Option MV):=[some (zMk,[(A7 d.toNat m).2.c])]
noncomputable abbrev Ig:ArgM ((Mk)×(Int)×Unit):=(amP (mMk) (amD (cInt .i64) am0))
abbrev QJ (n:Nat):Prop:=BD Tryz.prog 72 ((Ig).args 0) (Ig).mem (fun p:(Mk)×(Int)×Unit=>My n p.1 p.2.1) (fun p:(Mk)×(Int)×Unit=>EL n p.1 p.2.1) (fun p:(Mk)×(Int)×Unit=>DV n p.1 p.2.1)
theorem pM (n:Nat):∀p,(fun p:(Mk)×(Int)×Unit=>My n p.1 p.2.1) p→BA ((Ig).mem p).length ((fun p:(Mk)×(Int)×Unit=>DV n p.1 p.2.1) p)=true:=by intro p _;rfl
theorem pN (n:Nat):∀p,(fun p:(Mk)×(Int)×Unit=>My n p.1 p.2.1) p→AQ ((fun p:(Mk)×(Int)×Unit=>DV n p.1 p.2.1) p).length ((fun p:(Mk)×(Int)×Unit=>EL n p.1 p.2.1) p)=true:=by intro p _;first|rfl|exact AK _ _|exact AL _ _|(simp[AQ,Bn,AK,AL];done)
theorem pO (n:Nat):∀p,(fun p:(Mk)×(Int)×Unit=>My n p.1 p.2.1) p→∀q,some q∈(fun p:(Mk)×(Int)×Unit=>DV n p.1 p.2.1) p→∀r∈q.2,∀c∈r,c.names=[]:=by intro p _;exact Hj _
noncomputable def Ih {X:Ctx} {w0:World} (n:Nat) (h:QJ n):Sy.Spec Tryz.prog X w0:=Be 72 Tryz.call72 (Ig) (fun p:(Mk)×(Int)×Unit=>My n p.1 p.2.1) (fun p:(Mk)×(Int)×Unit=>EL n p.1 p.2.1) (fun p:(Mk)×(Int)×Unit=>DV n p.1 p.2.1) (pM n) (pN n) (pO n) h
attribute [local go_sem] Mk.c P3 P2 P6 P7 P0 SH SG SF Oz P8 P4 Mt P1 P5 Ih F3 Bv PB Kq zBy
set_option maxRecDepth 20000 in set_option maxHeartbeats 8000000 in
theorem pP (n:Nat) (hu:QJ n):QJ (n+1):=by
 rintro ⟨m,d,_u⟩ w M I lab fz xs hc hA hl hx
 refine AJ Tryz.func72 rfl _ w M I lab fz [Bv,PB,F3,(Ih n hu)] [] _ _ _ xs hA hl hx (fun v hv k hk=>by have:=(Ig).an 0 ⟨m,d,_u⟩ v hv k hk;omega) (jN rfl) (jN rfl) ?_
 clear hx hl hA xs
 simp only[Tryz.f72]
 obtain⟨o0,g0,g1,g2⟩:=hc
 dsimp only at o0 g0 g1 g2
 have a1:Ax m (nxM m) 1:=Aq (okM.mono o0 (by omega))
 have o1:okM (nxM m) (4*(d+1)-1):=a1.ok (okM.mono o0 (by omega))
 cases hd0:decide (d≤0) with
 |true=>
  have hd1:d.toNat=0:=by have:=of_decide_eq_true hd0;omega
  cases v7:decide (nxV 12 m<7) with
  |true=>
   have hr:A7 d.toNat m=nuT (nxM m):=by rw[hd1];simp only[A7];rw[if_pos v7]
   simp only[↓eB,seval,go_sem,hd0,v7]
   try simp only[A1,A2]
   repeat' first|exact ck|with_reducible apply And.intro|intro _
   all_goals first|exact okM.mono o0 (by omega)|exact okM.mono o1 (by omega)|(rename_i h;first|exact oI h|exact nah h)|(rename_i _ h _ g;exact sL h g)|decide|omega|(refine A0 [] ?_;simp only[↓eB,seval,go_sem,bne,EL,DV,hr])
  |false=>
   have v3:decide (nxV 12 m<3)=false:=decide_eq_false (by have:=of_decide_eq_false v7;omega)
   have hr:A7 d.toNat m=A6 (nxM m):=by rw[hd1];simp only[A7];rw[if_neg (by rw[v7];decide)]
   simp only[↓eB,seval,go_sem,hd0,v3,v7]
   try simp only[A1,A2]
   repeat' first|exact ck|with_reducible apply And.intro|intro _
   all_goals first|exact okM.mono o0 (by omega)|exact okM.mono o1 (by omega)|(rename_i h;first|exact oI h|exact nah h)|(rename_i _ h _ g;exact sL h g)|decide|omega|(refine A0 [] ?_;simp only[↓eB,seval,go_sem,bne,EL,DV,hr])
 |false=>
  obtain⟨k,hk⟩:∃k:Nat,d.toNat=k+1:=⟨d.toNat-1,by have:=of_decide_eq_false hd0;omega⟩
  obtain⟨d',hd'⟩:∃d':Int,d'=d-1:=⟨_,rfl⟩
  have hk':d'.toNat=k:=by omega
  have hdw:IntKind.i64.wrap (d-1)=d':=by rw[hd'];exact wrap_i64 (by omega) (by omega)
  have hdk:(k:Int)=d':=by have:=of_decide_eq_false hd0;omega
  have p0:0≤d':=by omega
  have p1:d'<(n:Int):=by omega
  have p2:d'≤4:=by omega
  have e0:A7 d.toNat m=A7 (k+1) m:=by rw[hk]
  cases v3:decide (nxV 12 m<3) with
  |true=>
   have hr:A7 d.toNat m=nuT (nxM m):=by rw[e0];simp only[A7];rw[if_pos v3]
   simp only[↓eB,seval,go_sem,hd0,v3]
   try simp only[A1,A2]
   repeat' first|exact ck|with_reducible apply And.intro|intro _
   all_goals first|exact okM.mono o0 (by omega)|exact okM.mono o1 (by omega)|(rename_i h;first|exact oI h|exact nah h)|(rename_i _ h _ g;exact sL h g)|decide|omega|(refine A0 [] ?_;simp only[↓eB,seval,go_sem,bne,EL,DV,hr])
  |false=>
  cases v6:decide (nxV 12 m<6) with
  |true=>
   have hr:A7 d.toNat m=A6 (nxM m):=by rw[e0];simp only[A7];rw[if_neg (by rw[v3];decide),if_pos v6]
   simp only[↓eB,seval,go_sem,hd0,v3,v6]
   try simp only[A1,A2]
   repeat' first|exact ck|with_reducible apply And.intro|intro _
   all_goals first|exact okM.mono o0 (by omega)|exact okM.mono o1 (by omega)|(rename_i h;first|exact oI h|exact nah h)|(rename_i _ h _ g;exact sL h g)|decide|omega|(refine A0 [] ?_;simp only[↓eB,seval,go_sem,bne,EL,DV,hr])
  |false=>
  cases w6:(nxV 12 m==6) with
  |true=>
   have hr:A7 d.toNat m=([45]++(A6 (nxM m)).1,(A6 (nxM m)).2):=by rw[e0];simp only[A7];rw[if_neg (by rw[v3];decide),if_neg (by rw[v6];decide),if_pos w6]
   have l1:=Bp (nxM m)
   simp only[↓eB,seval,go_sem,hd0,v3,v6,w6]
   try simp only[A1,A2]
   repeat' first|exact ck|with_reducible apply And.intro|intro _
   all_goals first|exact okM.mono o0 (by omega)|exact okM.mono o1 (by omega)|(simp only[jL3]at *;omega)|(rename_i h;first|exact oI h|exact nah h)|(rename_i _ h _ g;exact sL h g)|decide|omega|(refine A0 [] ?_;simp only[↓eB,seval,go_sem,bne,EL,DV,hr])
  |false=>
  have a2:Ax (nxM m) (A7 k (nxM m)).2 (4*(d'+1)):=by have h:=C6 k (m:=nxM m) (by rw[hdk];exact okM.mono o1 (by omega));rw[hdk]at h;exact h
  have o2:okM (A7 k (nxM m)).2 2:=a2.ok (okM.mono o1 (by omega))
  have a3:=Aq (okM.mono o2 (by omega):okM _ 1)
  have o3:okM (nxM (A7 k (nxM m)).2) 1:=a3.ok (okM.mono o2 (by omega))
  have l2:=BQ k (nxM m)
  have hkb:k≤4:=by omega
  cases w11:(nxV 12 m==11) with
  |true=>
   have hr:A7 d.toNat m=(([40]++(A7 k (nxM m)).1)++[41,32,45,32]++(A6 (A7 k (nxM m)).2).1,(A6 (A7 k (nxM m)).2).2):=by rw[e0];simp only[A7];rw[if_neg (by rw[v3];decide),if_neg (by rw[v6];decide),if_neg (by rw[w6];decide),if_pos w11]
   have l3:=Bp (A7 k (nxM m)).2
   simp only[↓eB,seval,go_sem,hd0,v3,v6,w6,w11,hdw,hk']
   try simp only[A1,A2]
   repeat' first|exact ck|with_reducible apply And.intro|intro _
   all_goals first|exact okM.mono o0 (by omega)|exact okM.mono o1 (by omega)|exact okM.mono o2 (by omega)|exact p0|exact p1|exact p2|(simp only[jL3]at *;omega)|(rename_i h;first|exact oI h|exact nah h)|(rename_i _ h _ g;exact sL h g)|decide|omega|(refine A0 [] ?_;simp only[↓eB,seval,go_sem,bne,EL,DV,hr])
  |false=>
   have hr:A7 d.toNat m=((((((A7 k (nxM m)).1++[32])++opT.getD (nxV 5 (A7 k (nxM m)).2).toNat [])++[32])++(A6 (nxM (A7 k (nxM m)).2)).1),(A6 (nxM (A7 k (nxM m)).2)).2):=by rw[e0];simp only[A7];rw[if_neg (by rw[v3];decide),if_neg (by rw[v6];decide),if_neg (by rw[w6];decide),if_neg (by rw[w11];decide)]
   have l3:=U0 (nxV 5 (A7 k (nxM m)).2).toNat
   have l4:=Bp (nxM (A7 k (nxM m)).2)
   have q5:=Bu (j:=5) o2 (by decide)
   simp only[↓eB,seval,go_sem,hd0,v3,v6,w6,w11,hdw,hk']
   try simp only[A1,A2]
   repeat' first|exact ck|with_reducible apply And.intro|intro _
   all_goals first|exact okM.mono o0 (by omega)|exact okM.mono o1 (by omega)|exact okM.mono o2 (by omega)|exact okM.mono o3 (by omega)|exact p0|exact p1|exact p2|(simp only[jL3]at *;omega)|(rename_i h;first|exact oI h|exact nah h)|(rename_i _ h _ g;exact sL h g)|decide|omega|(refine A0 [] ?_;simp only[↓eB,seval,go_sem,bne,EL,DV,hr])
theorem SJ:∀n:Nat,QJ n
 |0=>by
  rintro ⟨m,d,_u⟩ w M I lab fz xs hc hA hl hx
  exact absurd hc.2.2.1 (by have:=hc.2.1;dsimp only at this ⊢;omega)
 |n+1=>pP n (SJ n)
end Go.Proofs.YtbiepiggmagfcaaGreatDoor
