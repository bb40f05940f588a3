/- The maker's small functions. No conditions but those in each statement. -/
import Derived.Test.YtjnnmindcbgjhaaMi1
set_option linter.unusedVariables false
set_option linter.unusedSimpArgs false
open List (mem_of_getElem?)
namespace Go.Proofs.Ytjnnmindcbgjhaa
open Go Go.Sy Go.RowKit
structure Mk where
 b:List Int
 i:Int
 n:Int
theorem Dh (p:Mk):(⟨p.b,p.i,p.n⟩:Mk)=p:=rfl
def byD (x:Int):List D:=[.v (.int .u8 x)]
def zBy:List D:=[.v (.int .u8 0)]
def Mk.c (p:Mk):List C:=[.d (.sl zBy (p.b.map byD)),.v (.int .i64 p.i),.v (.int .i64 p.n)]
abbrev zMk:List C:=[.v (.int .i64 0),.v (.int .i64 0),.v (.int .i64 0)]
theorem cG (a b:Int) (h:byD a=byD b):a=b:=by simpa [byD] using h
theorem Ym (a b:Mk) (h:a.c=b.c):a=b:=by
 obtain⟨l,i,n⟩:=a
 obtain⟨l',i',n'⟩:=b
 simp only[Mk.c,List.cons.injEq,C.v.injEq,C.d.injEq,D.sl.injEq,Value.int.injEq,true_and,and_true]at h
 obtain⟨h1,rfl,rfl⟩:=h
 rw[Ay cG h1]
theorem cH (p:Mk):∀c∈p.c,c.names=[]:=by
 intro c hc
 simp only[Mk.c,List.mem_cons,List.not_mem_nil,or_false]at hc
 rcases hc with rfl|rfl|rfl<;>rfl
noncomputable def mMk:RowM Mk:=Lw zMk Mk.c cH
theorem El:mMk.z=zMk:=rfl
theorem Em:mMk.e=Mk.c:=rfl
theorem En (l:List Int) (i n:Int):mMk.d [.d (.sl [.v (.int .u8 0)] (l.map byD)),.v (.int .i64 i),.v (.int .i64 n)]=some ⟨l,i,n⟩:=HL Ym ⟨l,i,n⟩
theorem KD (p:Mk):∀q,some q∈[some ((zMk,[p.c]):MV)]→∀r∈q.2,∀c∈r,c.names=[]:=by
 intro q hq r hr c hc
 simp only[List.mem_singleton,jS]at hq
 subst hq
 simp only[List.mem_singleton]at hr
 subst hr
 exact cH p c hc
theorem A0Z (l:List Int) (i:Nat):(l.map byD).getD i [.v (.int .u8 0)]=byD (l.getD i 0):=by
 simp only[List.getD,List.getElem?_map]
 cases l[i]?<;>rfl
theorem Lg (l:List (List UInt8)) (i:Nat):(l.map cS).getD i [.v (.string (bs []))]=cS (l.getD i []):=by
 simp only[List.getD,List.getElem?_map]
 cases l[i]?<;>rfl
def numT:List (List UInt8):=[[48],[49],[50],[51],[52],[49,48],[57,50,50,51,51,55,50,48,51,54,56,53,52,55,55,53,56,48,55],[55]]
theorem DE (i:Nat):([[.v (.string (bs [48]))],[.v (.string (bs [49]))],[.v (.string (bs [50]))],[.v (.string (bs [51]))],[.v (.string (bs [52]))],[.v (.string (bs [49,48]))],[.v (.string (bs [57,50,50,51,51,55,50,48,51,54,56,53,52,55,55,53,56,48,55]))],[.v (.string (bs [55]))]]:List (List C)).getD i [.v (.string (bs []))]=[.v (.string (bs (numT.getD i [])))]:=Lg numT i
theorem fk (i:Nat):(numT.getD i []).length≤19:=by
 simp only[List.getD]
 cases h:numT[i]? with
 |none=>exact Nat.zero_le _
 |some x=>exact(by decide:∀x∈numT,x.length≤19) x (mem_of_getElem? h)
def ivT:List (List UInt8):=[[97],[98],[120],[99],[100],[97]]
theorem Dw (i:Nat):([[.v (.string (bs [97]))],[.v (.string (bs [98]))],[.v (.string (bs [120]))],[.v (.string (bs [99]))],[.v (.string (bs [100]))],[.v (.string (bs [97]))]]:List (List C)).getD i [.v (.string (bs []))]=[.v (.string (bs (ivT.getD i [])))]:=Lg ivT i
theorem lv (i:Nat):(ivT.getD i []).length≤1:=by
 simp only[List.getD]
 cases h:ivT[i]? with
 |none=>exact Nat.zero_le _
 |some x=>exact(by decide:∀x∈ivT,x.length≤1) x (mem_of_getElem? h)
def opT:List (List UInt8):=[[43],[45],[42],[47],[37]]
theorem Dx (i:Nat):([[.v (.string (bs [43]))],[.v (.string (bs [45]))],[.v (.string (bs [42]))],[.v (.string (bs [47]))],[.v (.string (bs [37]))]]:List (List C)).getD i [.v (.string (bs []))]=[.v (.string (bs (opT.getD i [])))]:=Lg opT i
theorem Yn (i:Nat):(opT.getD i []).length≤1:=by
 simp only[List.getD]
 cases h:opT[i]? with
 |none=>exact Nat.zero_le _
 |some x=>exact(by decide:∀x∈opT,x.length≤1) x (mem_of_getElem? h)
def cmT:List (List UInt8):=[[60],[60,61],[62],[62,61],[61,61],[33,61]]
theorem Dy (i:Nat):([[.v (.string (bs [60]))],[.v (.string (bs [60,61]))],[.v (.string (bs [62]))],[.v (.string (bs [62,61]))],[.v (.string (bs [61,61]))],[.v (.string (bs [33,61]))]]:List (List C)).getD i [.v (.string (bs []))]=[.v (.string (bs (cmT.getD i [])))]:=Lg cmT i
theorem US (i:Nat):(cmT.getD i []).length≤2:=by
 simp only[List.getD]
 cases h:cmT[i]? with
 |none=>exact Nat.zero_le _
 |some x=>exact(by decide:∀x∈cmT,x.length≤2) x (mem_of_getElem? h)
def cdT:List (List UInt8):=[[99],[100]]
theorem Dz (i:Nat):([[.v (.string (bs [99]))],[.v (.string (bs [100]))]]:List (List C)).getD i [.v (.string (bs []))]=[.v (.string (bs (cdT.getD i [])))]:=Lg cdT i
theorem Yo (i:Nat):(cdT.getD i []).length≤1:=by
 simp only[List.getD]
 cases h:cdT[i]? with
 |none=>exact Nat.zero_le _
 |some x=>exact(by decide:∀x∈cdT,x.length≤1) x (mem_of_getElem? h)
def nqT:List (List UInt8):=[[110,117,108,108],[113]]
theorem E0 (i:Nat):([[.v (.string (bs [110,117,108,108]))],[.v (.string (bs [113]))]]:List (List C)).getD i [.v (.string (bs []))]=[.v (.string (bs (nqT.getD i [])))]:=Lg nqT i
theorem Yp (i:Nat):(nqT.getD i []).length≤4:=by
 simp only[List.getD]
 cases h:nqT[i]? with
 |none=>exact Nat.zero_le _
 |some x=>exact(by decide:∀x∈nqT,x.length≤4) x (mem_of_getElem? h)
def tuT:List (List UInt8):=[[116],[117]]
theorem E1 (i:Nat):([[.v (.string (bs [116]))],[.v (.string (bs [117]))]]:List (List C)).getD i [.v (.string (bs []))]=[.v (.string (bs (tuT.getD i [])))]:=Lg tuT i
theorem RL (i:Nat):(tuT.getD i []).length≤1:=by
 simp only[List.getD]
 cases h:tuT[i]? with
 |none=>exact Nat.zero_le _
 |some x=>exact(by decide:∀x∈tuT,x.length≤1) x (mem_of_getElem? h)
def eqT:List (List UInt8):=[[32,61,61,32,110,117,108,108],[32,33,61,32,110,117,108,108]]
theorem E2 (i:Nat):([[.v (.string (bs [32,61,61,32,110,117,108,108]))],[.v (.string (bs [32,33,61,32,110,117,108,108]))]]:List (List C)).getD i [.v (.string (bs []))]=[.v (.string (bs (eqT.getD i [])))]:=Lg eqT i
theorem UT (i:Nat):(eqT.getD i []).length≤8:=by
 simp only[List.getD]
 cases h:eqT[i]? with
 |none=>exact Nat.zero_le _
 |some x=>exact(by decide:∀x∈eqT,x.length≤8) x (mem_of_getElem? h)
def hdT:List (List UInt8):=[[102,110,32,102,40,120,41],[102,110,32,103,40,120,44,32,121,41],[102,110,32,104,40,42,112,41],[102,110,32,107,40,120,44,32,42,112,41]]
theorem E3 (i:Nat):([[.v (.string (bs [102,110,32,102,40,120,41]))],[.v (.string (bs [102,110,32,103,40,120,44,32,121,41]))],[.v (.string (bs [102,110,32,104,40,42,112,41]))],[.v (.string (bs [102,110,32,107,40,120,44,32,42,112,41]))]]:List (List C)).getD i [.v (.string (bs []))]=[.v (.string (bs (hdT.getD i [])))]:=Lg hdT i
theorem Yq (i:Nat):(hdT.getD i []).length≤11:=by
 simp only[List.getD]
 cases h:hdT[i]? with
 |none=>exact Nat.zero_le _
 |some x=>exact(by decide:∀x∈hdT,x.length≤11) x (mem_of_getElem? h)
def nmT:List (List UInt8):=[[102],[103],[104],[107]]
theorem E4 (i:Nat):([[.v (.string (bs [102]))],[.v (.string (bs [103]))],[.v (.string (bs [104]))],[.v (.string (bs [107]))]]:List (List C)).getD i [.v (.string (bs []))]=[.v (.string (bs (nmT.getD i [])))]:=Lg nmT i
theorem lw (i:Nat):(nmT.getD i []).length≤1:=by
 simp only[List.getD]
 cases h:nmT[i]? with
 |none=>exact Nat.zero_le _
 |some x=>exact(by decide:∀x∈nmT,x.length≤1) x (mem_of_getElem? h)
def okM (m:Mk) (c:Int):Prop:=0≤m.i∧m.i+c≤4294967296∧∀x∈m.b,0≤x∧x<256
def SL (m:Mk):Int:=if decide (m.i<(m.b.length:Int))=true then w64i (m.b.getD m.i.toNat 0) else 0
def nxM (m:Mk):Mk:={ m with i:=w64i (m.i+1) }
def nxV (j:Int) (m:Mk):Int:=(SL m).tmod j
structure Ax (m q:Mk) (c:Int):Prop where
 lo:m.i≤q.i
 hi:q.i≤m.i+c
 b:q.b=m.b
theorem Ax.refl (m:Mk):Ax m m 0:=⟨Int.le_refl _,by omega,rfl⟩
theorem Ax.trans {m q r:Mk} {c d:Int} (h:Ax m q c) (h':Ax q r d):Ax m r (c+d):=⟨Int.le_trans h.lo h'.lo,by have:=h.hi;have:=h'.hi;omega,h'.b.trans h.b⟩
theorem Ax.mono {m q:Mk} {c d:Int} (h:Ax m q c) (hd:c≤d):Ax m q d:=⟨h.lo,by have:=h.hi;omega,h.b⟩
theorem Ax.ok {m q:Mk} {c d:Int} (h:Ax m q c) (ho:okM m (c+d)):okM q d:=⟨by have:=h.lo;have:=ho.1;omega,by have:=h.hi;have:=ho.2.1;omega,by rw[h.b];exact ho.2.2⟩
theorem okM.mono {m:Mk} {c d:Int} (h:okM m c) (hd:d≤c):okM m d:=⟨h.1,by have:=h.2.1;omega,h.2.2⟩
theorem BX {m:Mk} (h:okM m 1):Ax m (nxM m) 1:=by
 have h1:=h.1;have h2:=h.2.1
 have e:(nxM m).i=m.i+1:=wrap_i64 (by omega) (by omega)
 exact⟨by omega,by omega,rfl⟩
theorem tu {m:Mk} {c:Int} (h:okM m c):0≤SL m:=by
 unfold SL
 split
 ·have h3:0≤m.b.getD m.i.toNat 0∧m.b.getD m.i.toNat 0<256:=by
   simp only[List.getD]
   cases e:m.b[m.i.toNat]? with
   |none=>simp
   |some x=>exact h.2.2 x (mem_of_getElem? e)
  have e:w64i (m.b.getD m.i.toNat 0)=m.b.getD m.i.toNat 0:=wrap_i64 (by omega) (by omega)
  rw[e];exact h3.1
 ·exact Int.le_refl _
theorem D2 {m:Mk} {c j:Int} (h:okM m c) (hj:0<j):0≤nxV j m∧nxV j m<j:=by
 have h1:=tu h
 exact⟨Int.tmod_nonneg j h1,Int.tmod_lt_of_pos _ hj⟩
abbrev OX (m:Mk) (j:Int):Prop:=okM m 1∧j≠0
abbrev MO (m:Mk) (j:Int):SV:=.one (.v (.int .i64 (nxV j m)))
abbrev Jy (m:Mk) (j:Int):List (Option MV):=[some (zMk,[(nxM m).c])]
noncomputable abbrev Kp:ArgM ((Mk)×(Int)×Unit):=(amP (mMk) (amD (cInt .i64) am0))
abbrev ly:Prop:=Bs Try.prog 68 ((Kp).args 0) (Kp).mem (fun p:(Mk)×(Int)×Unit=>OX p.1 p.2.1) (fun p:(Mk)×(Int)×Unit=>MO p.1 p.2.1) (fun p:(Mk)×(Int)×Unit=>Jy p.1 p.2.1)
theorem lz:∀p,(fun p:(Mk)×(Int)×Unit=>OX p.1 p.2.1) p→Cm ((Kp).mem p).length ((fun p:(Mk)×(Int)×Unit=>Jy p.1 p.2.1) p)=true:=by intro p _;rfl
theorem mA:∀p,(fun p:(Mk)×(Int)×Unit=>OX p.1 p.2.1) p→As ((fun p:(Mk)×(Int)×Unit=>Jy p.1 p.2.1) p).length ((fun p:(Mk)×(Int)×Unit=>MO p.1 p.2.1) p)=true:=by intro p _;first|rfl|exact AO _ _|exact AP _ _|(simp[As,Bz,AO,AP];done)
theorem mB:∀p,(fun p:(Mk)×(Int)×Unit=>OX p.1 p.2.1) p→∀q,some q∈(fun p:(Mk)×(Int)×Unit=>Jy p.1 p.2.1) p→∀r∈q.2,∀c∈r,c.names=[]:=by intro p _;exact KD _
attribute [local go_sem] Mk.c byD A0Z Dz Dy E2 E3 Dw En Em El Dh E4 E0 DE Dx E1 zBy
theorem tv:ly:=by
 rintro ⟨m,j,_u⟩ w M I lab fz xs hc hA hl hx
 refine Am Try.func68 rfl ((Kp).mem ⟨m,j,_u⟩) w M I lab fz [] [] ((Kp).args 0 ⟨m,j,_u⟩) ((fun p:(Mk)×(Int)×Unit=>Jy p.1 p.2.1) ⟨m,j,_u⟩) ((fun p:(Mk)×(Int)×Unit=>MO p.1 p.2.1) ⟨m,j,_u⟩) xs hA hl hx (fun v hv k hk=>by have:=(Kp).an 0 ⟨m,j,_u⟩ v hv k hk;omega) (jN rfl) (jN rfl) ?_
 clear hx hl hA xs
 simp only[Try.f68]
 obtain⟨h0,hk⟩:=hc
 dsimp only at h0 hk
 have h1:=h0.1
 cases hd:decide (m.i<(m.b.length:Int)) with
 |true=>
  have hd2:=of_decide_eq_true hd
  have hr:SL m=w64i (m.b.getD m.i.toNat 0):=by simp only[SL];rw[if_pos hd]
  simp only[↓eB,seval,go_sem,hd]
  try simp only[A2,A3]
  repeat' first|exact ck|with_reducible apply And.intro|intro _
  all_goals first|exact h1|(rename_i h;first|exact oI h|exact nah h)|(rename_i _ h _ g;exact sL h g)|decide|omega|(refine A0 [] ?_;simp only[↓eB,seval,go_sem,bne,MO,Jy,nxV,nxM,hr])
 |false=>
  have hr:SL m=0:=by simp only[SL];rw[if_neg (by rw[hd];decide)]
  simp only[↓eB,seval,go_sem,hd]
  try simp only[A2,A3]
  repeat' first|exact ck|with_reducible apply And.intro|intro _
  all_goals first|exact h1|(rename_i h;first|exact oI h|exact nah h)|(rename_i _ h _ g;exact sL h g)|decide|omega|(refine A0 [] ?_;simp only[↓eB,seval,go_sem,bne,MO,Jy,nxV,nxM,hr])
noncomputable def Bk {X:Ctx} {w0:World}:Sy.Spec Try.prog X w0:=CY 68 Try.call68 (Kp) (fun p:(Mk)×(Int)×Unit=>OX p.1 p.2.1) (fun p:(Mk)×(Int)×Unit=>MO p.1 p.2.1) (fun p:(Mk)×(Int)×Unit=>Jy p.1 p.2.1) lz mA mB tv
abbrev T:=List UInt8×Mk
def nuT (m:Mk):T:=(numT.getD (nxV 8 m).toNat [],nxM m)
def An (m:Mk):T:=(ivT.getD (nxV 6 m).toNat [],nxM m)
def pvT (s:Int) (m:Mk):T:=if decide (2≤s.tmod 4)=true then (if (nxV 2 m==0)=true then ([112],nxM m) else ([113],nxM m)) else ([113],m)
abbrev QW (m:Mk):Prop:=okM m 1
abbrev QX (m:Mk):SV:=.one (.v (.string (bs (nuT m).1)))
abbrev Mw (m:Mk):List (Option MV):=[some (zMk,[(nuT m).2.c])]
noncomputable abbrev Mx:ArgM ((Mk)×Unit):=(amP (mMk) am0)
abbrev tw:Prop:=Bs Try.prog 79 ((Mx).args 0) (Mx).mem (fun p:(Mk)×Unit=>QW p.1) (fun p:(Mk)×Unit=>QX p.1) (fun p:(Mk)×Unit=>Mw p.1)
theorem tx:∀p,(fun p:(Mk)×Unit=>QW p.1) p→Cm ((Mx).mem p).length ((fun p:(Mk)×Unit=>Mw p.1) p)=true:=by intro p _;rfl
theorem u3:∀p,(fun p:(Mk)×Unit=>QW p.1) p→As ((fun p:(Mk)×Unit=>Mw p.1) p).length ((fun p:(Mk)×Unit=>QX p.1) p)=true:=by intro p _;first|rfl|exact AO _ _|exact AP _ _|(simp[As,Bz,AO,AP];done)
theorem u4:∀p,(fun p:(Mk)×Unit=>QW p.1) p→∀q,some q∈(fun p:(Mk)×Unit=>Mw p.1) p→∀r∈q.2,∀c∈r,c.names=[]:=by intro p _;exact KD _
theorem A0a:tw:=by
 rintro ⟨m,_u⟩ w M I lab fz xs hc hA hl hx
 refine Am Try.func79 rfl ((Mx).mem ⟨m,_u⟩) w M I lab fz [Bk] [] ((Mx).args 0 ⟨m,_u⟩) ((fun p:(Mk)×Unit=>Mw p.1) ⟨m,_u⟩) ((fun p:(Mk)×Unit=>QX p.1) ⟨m,_u⟩) xs hA hl hx (fun v hv k hk=>by have:=(Mx).an 0 ⟨m,_u⟩ v hv k hk;omega) (jN rfl) (jN rfl) ?_
 clear hx hl hA xs
 simp only[Try.f79]
 have h0:okM m 1:=hc
 have h1:=D2 (j:=8) h0 (by decide)
 simp only[↓eB,seval,go_sem,Bk]
 try simp only[A2,A3]
 repeat' first|exact ck|with_reducible apply And.intro|intro _
 all_goals first|exact h0|exact h1|(rename_i h;first|exact oI h|exact nah h)|(rename_i _ h _ g;exact sL h g)|decide|omega|(refine A0 [] ?_;simp only[↓eB,seval,go_sem,bne,QX,Mw,nuT])
noncomputable def KE {X:Ctx} {w0:World}:Sy.Spec Try.prog X w0:=CY 79 Try.call79 (Mx) (fun p:(Mk)×Unit=>QW p.1) (fun p:(Mk)×Unit=>QX p.1) (fun p:(Mk)×Unit=>Mw p.1) tx u3 u4 A0a
abbrev OY (m:Mk):Prop:=okM m 1
abbrev OZ (m:Mk):SV:=.one (.v (.string (bs (An m).1)))
abbrev Kr (m:Mk):List (Option MV):=[some (zMk,[(An m).2.c])]
noncomputable abbrev Ks:ArgM ((Mk)×Unit):=(amP (mMk) am0)
abbrev mC:Prop:=Bs Try.prog 70 ((Ks).args 0) (Ks).mem (fun p:(Mk)×Unit=>OY p.1) (fun p:(Mk)×Unit=>OZ p.1) (fun p:(Mk)×Unit=>Kr p.1)
theorem mD:∀p,(fun p:(Mk)×Unit=>OY p.1) p→Cm ((Ks).mem p).length ((fun p:(Mk)×Unit=>Kr p.1) p)=true:=by intro p _;rfl
theorem mE:∀p,(fun p:(Mk)×Unit=>OY p.1) p→As ((fun p:(Mk)×Unit=>Kr p.1) p).length ((fun p:(Mk)×Unit=>OZ p.1) p)=true:=by intro p _;first|rfl|exact AO _ _|exact AP _ _|(simp[As,Bz,AO,AP];done)
theorem mF:∀p,(fun p:(Mk)×Unit=>OY p.1) p→∀q,some q∈(fun p:(Mk)×Unit=>Kr p.1) p→∀r∈q.2,∀c∈r,c.names=[]:=by intro p _;exact KD _
theorem u5:mC:=by
 rintro ⟨m,_u⟩ w M I lab fz xs hc hA hl hx
 refine Am Try.func70 rfl ((Ks).mem ⟨m,_u⟩) w M I lab fz [Bk] [] ((Ks).args 0 ⟨m,_u⟩) ((fun p:(Mk)×Unit=>Kr p.1) ⟨m,_u⟩) ((fun p:(Mk)×Unit=>OZ p.1) ⟨m,_u⟩) xs hA hl hx (fun v hv k hk=>by have:=(Ks).an 0 ⟨m,_u⟩ v hv k hk;omega) (jN rfl) (jN rfl) ?_
 clear hx hl hA xs
 simp only[Try.f70]
 have h0:okM m 1:=hc
 have h1:=D2 (j:=6) h0 (by decide)
 simp only[↓eB,seval,go_sem,Bk]
 try simp only[A2,A3]
 repeat' first|exact ck|with_reducible apply And.intro|intro _
 all_goals first|exact h0|exact h1|(rename_i h;first|exact oI h|exact nah h)|(rename_i _ h _ g;exact sL h g)|decide|omega|(refine A0 [] ?_;simp only[↓eB,seval,go_sem,bne,OZ,Kr,An])
noncomputable def D3 {X:Ctx} {w0:World}:Sy.Spec Try.prog X w0:=CY 70 Try.call70 (Ks) (fun p:(Mk)×Unit=>OY p.1) (fun p:(Mk)×Unit=>OZ p.1) (fun p:(Mk)×Unit=>Kr p.1) mD mE mF u5
abbrev Oa (m:Mk) (s:Int):Prop:=okM m 1
abbrev Ku (m:Mk) (s:Int):SV:=.one (.v (.string (bs (pvT s m).1)))
abbrev Iw (m:Mk) (s:Int):List (Option MV):=[some (zMk,[(pvT s m).2.c])]
noncomputable abbrev Kv:ArgM ((Mk)×(Int)×Unit):=(amP (mMk) (amD (cInt .i64) am0))
abbrev mG:Prop:=Bs Try.prog 81 ((Kv).args 0) (Kv).mem (fun p:(Mk)×(Int)×Unit=>Oa p.1 p.2.1) (fun p:(Mk)×(Int)×Unit=>Ku p.1 p.2.1) (fun p:(Mk)×(Int)×Unit=>Iw p.1 p.2.1)
theorem mH:∀p,(fun p:(Mk)×(Int)×Unit=>Oa p.1 p.2.1) p→Cm ((Kv).mem p).length ((fun p:(Mk)×(Int)×Unit=>Iw p.1 p.2.1) p)=true:=by intro p _;rfl
theorem mI:∀p,(fun p:(Mk)×(Int)×Unit=>Oa p.1 p.2.1) p→As ((fun p:(Mk)×(Int)×Unit=>Iw p.1 p.2.1) p).length ((fun p:(Mk)×(Int)×Unit=>Ku p.1 p.2.1) p)=true:=by intro p _;first|rfl|exact AO _ _|exact AP _ _|(simp[As,Bz,AO,AP];done)
theorem mJ:∀p,(fun p:(Mk)×(Int)×Unit=>Oa p.1 p.2.1) p→∀q,some q∈(fun p:(Mk)×(Int)×Unit=>Iw p.1 p.2.1) p→∀r∈q.2,∀c∈r,c.names=[]:=by intro p _;exact KD _
theorem u6:mG:=by
 rintro ⟨m,s,_u⟩ w M I lab fz xs hc hA hl hx
 refine Am Try.func81 rfl ((Kv).mem ⟨m,s,_u⟩) w M I lab fz [Bk] [] ((Kv).args 0 ⟨m,s,_u⟩) ((fun p:(Mk)×(Int)×Unit=>Iw p.1 p.2.1) ⟨m,s,_u⟩) ((fun p:(Mk)×(Int)×Unit=>Ku p.1 p.2.1) ⟨m,s,_u⟩) xs hA hl hx (fun v hv k hk=>by have:=(Kv).an 0 ⟨m,s,_u⟩ v hv k hk;omega) (jN rfl) (jN rfl) ?_
 clear hx hl hA xs
 simp only[Try.f81]
 have h0:okM m 1:=hc
 have h1:=D2 (j:=2) h0 (by decide)
 cases h2:decide (2≤s.tmod 4) with
 |true=>
  cases h3:(nxV 2 m==0) with
  |true=>
   have hr:pvT s m=([112],nxM m):=by simp only[pvT];rw[if_pos h2,if_pos h3]
   simp only[↓eB,seval,go_sem,Bk,h2,h3]
   try simp only[A2,A3]
   repeat' first|exact ck|with_reducible apply And.intro|intro _
   all_goals first|exact h0|exact h1|(rename_i h;first|exact oI h|exact nah h)|(rename_i _ h _ g;exact sL h g)|decide|omega|(refine A0 [] ?_;simp only[↓eB,seval,go_sem,bne,Ku,Iw,hr])
  |false=>
   have hr:pvT s m=([113],nxM m):=by simp only[pvT];rw[if_pos h2,if_neg (by rw[h3];decide)]
   simp only[↓eB,seval,go_sem,Bk,h2,h3]
   try simp only[A2,A3]
   repeat' first|exact ck|with_reducible apply And.intro|intro _
   all_goals first|exact h0|exact h1|(rename_i h;first|exact oI h|exact nah h)|(rename_i _ h _ g;exact sL h g)|decide|omega|(refine A0 [] ?_;simp only[↓eB,seval,go_sem,bne,Ku,Iw,hr])
 |false=>
  have hr:pvT s m=([113],m):=by simp only[pvT];rw[if_neg (by rw[h2];decide)]
  simp only[↓eB,seval,go_sem,Bk,h2]
  try simp only[A2,A3]
  repeat' first|exact ck|with_reducible apply And.intro|intro _
  all_goals first|exact h0|exact h1|(rename_i h;first|exact oI h|exact nah h)|(rename_i _ h _ g;exact sL h g)|decide|omega|(refine A0 [] ?_;simp only[↓eB,seval,go_sem,bne,Ku,Iw,hr])
noncomputable def Hd {X:Ctx} {w0:World}:Sy.Spec Try.prog X w0:=CY 81 Try.call81 (Kv) (fun p:(Mk)×(Int)×Unit=>Oa p.1 p.2.1) (fun p:(Mk)×(Int)×Unit=>Ku p.1 p.2.1) (fun p:(Mk)×(Int)×Unit=>Iw p.1 p.2.1) mH mI mJ u6
end Go.Proofs.Ytjnnmindcbgjhaa
