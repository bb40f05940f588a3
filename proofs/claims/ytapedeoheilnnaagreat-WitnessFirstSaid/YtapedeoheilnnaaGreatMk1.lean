/- The maker's small functions. No conditions but those in each statement. -/
import Derived.Test.YtapedeoheilnnaaGreatPa1
set_option linter.all false
open Nat (zero_le)
open List (length_append length_cons length_nil mem_of_getElem?)
namespace Go.Proofs.YtapedeoheilnnaaGreat
open Go Go.Sy Go.RowKit
theorem AAb{P:Prop}(h:P:=by
 repeat refine AX ?_
 refine A1 [] ?_;simp only[seval,go_sem,bne,Pv,Pw,hr]):P:=h
theorem AAp{P:Prop}(h:P:=by exact absurd hc.2.2.1 (by have:=hc.2.1;dsimp only at this ⊢;omega)):P:=h
theorem AA4{P:Prop}(h:P:=by
 repeat' split
 all_goals (try simp only[jL3])
 all_goals omega):P:=h
theorem KZ0{P:Prop}(h:P:=by (repeat' first|exact ck|with_reducible apply And.intro|intro _);all_goals first|exact okM.mono o0 (by omega)|exact okM.mono o1 (by omega)|exact KZ|(refine A1 [] ?_;simp only[seval,go_sem,bne,NP,NQ,hr])):P:=h
structure Mk where
 b:List Int
 i:Int
 n:Int
theorem Fm(p:Mk):(⟨p.b,p.i,p.n⟩:Mk)=p:=rfl
def byD(x:Int):List D:=[.v (.int .u8 x)]
def zBy:List D:=[.v (.int .u8 0)]
def Mk.c(p:Mk):List C:=[.d (.sl zBy (p.b.map byD)),.v (.int .i64 p.i),.v (.int .i64 p.n)]
abbrev zMk:List C:=[.v (.int .i64 0),.v (.int .i64 0),.v (.int .i64 0)]
theorem ik(a b:Int)(h:byD a=byD b):a=b:=by simpa [byD] using h
theorem tA(a b:Mk)(h:a.c=b.c):a=b:=by
 obtain⟨l,i,n⟩:=a
 obtain⟨l',i',n'⟩:=b
 simp only[Mk.c,List.cons.injEq,C.v.injEq,C.d.injEq,D.sl.injEq,Value.int.injEq,true_and,and_true]at h
 obtain⟨h1,rfl,rfl⟩:=h
 rw[Aj ik h1]
theorem il(p:Mk):∀c∈p.c,c.names=[]:=by
 intro c hc
 simp only[Mk.c,List.mem_cons,List.not_mem_nil,or_false]at hc
 exact AAt
noncomputable def mMk:RowM Mk:=MP zMk Mk.c il
theorem HC:mMk.z=zMk:=rfl
theorem HD:mMk.e=Mk.c:=rfl
theorem HE(l:List Int)(i n:Int):mMk.d [.d (.sl [.v (.int .u8 0)] (l.map byD)),.v (.int .i64 i),.v (.int .i64 n)]=some ⟨l,i,n⟩:=JG tA ⟨l,i,n⟩
theorem yH(p:Mk):∀q,some q∈[some ((zMk,[p.c]):MV)]->∀r∈q.2,∀c∈r,c.names=[]:=by
 intro q hq r hr c hc
 simp only[List.mem_singleton,jS]at hq
 subst hq
 simp only[List.mem_singleton]at hr
 subst hr
 exact il p c hc
theorem A35(l:List Int)(i:Nat):(l.map byD).getD i [.v (.int .u8 0)]=byD (l.getD i 0):=by
 simp only[List.getD,List.getElem?_map]
 cases l[i]?<;>rfl
theorem MA(l:List (List UInt8))(i:Nat):(l.map cS).getD i [.v (.string (bs []))]=cS (l.getD i []):=by
 simp only[List.getD,List.getElem?_map]
 cases l[i]?<;>rfl
def numT:List (List UInt8):=[[48],[49],[50],[51],[52],[49,48],[57,50,50,51,51,55,50,48,51,54,56,53,52,55,55,53,56,48,55],[55]]
theorem FB(i:Nat):([[.v (.string (bs [48]))],[.v (.string (bs [49]))],[.v (.string (bs [50]))],[.v (.string (bs [51]))],[.v (.string (bs [52]))],[.v (.string (bs [49,48]))],[.v (.string (bs [57,50,50,51,51,55,50,48,51,54,56,53,52,55,55,53,56,48,55]))],[.v (.string (bs [55]))]]:List (List C)).getD i [.v (.string (bs []))]=[.v (.string (bs (numT.getD i [])))]:=MA numT i
theorem mj(i:Nat):(numT.getD i []).length<=19:=by
 simp only[List.getD]
 cases h:numT[i]? with
 |none=>exact zero_le _
 |some x=>exact(by decide:∀x∈numT,x.length<=19) x (mem_of_getElem? h)
def ivT:List (List UInt8):=[[97],[98],[120],[99],[100],[97]]
theorem Fy(i:Nat):([[.v (.string (bs [97]))],[.v (.string (bs [98]))],[.v (.string (bs [120]))],[.v (.string (bs [99]))],[.v (.string (bs [100]))],[.v (.string (bs [97]))]]:List (List C)).getD i [.v (.string (bs []))]=[.v (.string (bs (ivT.getD i [])))]:=MA ivT i
theorem tB(i:Nat):(ivT.getD i []).length<=1:=by
 simp only[List.getD]
 cases h:ivT[i]? with
 |none=>exact zero_le _
 |some x=>exact(by decide:∀x∈ivT,x.length<=1) x (mem_of_getElem? h)
def opT:List (List UInt8):=[[43],[45],[42],[47],[37]]
theorem G0(i:Nat):([[.v (.string (bs [43]))],[.v (.string (bs [45]))],[.v (.string (bs [42]))],[.v (.string (bs [47]))],[.v (.string (bs [37]))]]:List (List C)).getD i [.v (.string (bs []))]=[.v (.string (bs (opT.getD i [])))]:=MA opT i
theorem cz(i:Nat):(opT.getD i []).length<=1:=by
 simp only[List.getD]
 cases h:opT[i]? with
 |none=>exact zero_le _
 |some x=>exact(by decide:∀x∈opT,x.length<=1) x (mem_of_getElem? h)
def cmT:List (List UInt8):=[[60],[60,61],[62],[62,61],[61,61],[33,61]]
theorem G1(i:Nat):([[.v (.string (bs [60]))],[.v (.string (bs [60,61]))],[.v (.string (bs [62]))],[.v (.string (bs [62,61]))],[.v (.string (bs [61,61]))],[.v (.string (bs [33,61]))]]:List (List C)).getD i [.v (.string (bs []))]=[.v (.string (bs (cmT.getD i [])))]:=MA cmT i
theorem Wk(i:Nat):(cmT.getD i []).length<=2:=by
 simp only[List.getD]
 cases h:cmT[i]? with
 |none=>exact zero_le _
 |some x=>exact(by decide:∀x∈cmT,x.length<=2) x (mem_of_getElem? h)
def cdT:List (List UInt8):=[[99],[100]]
theorem G2(i:Nat):([[.v (.string (bs [99]))],[.v (.string (bs [100]))]]:List (List C)).getD i [.v (.string (bs []))]=[.v (.string (bs (cdT.getD i [])))]:=MA cdT i
theorem dA(i:Nat):(cdT.getD i []).length<=1:=by
 simp only[List.getD]
 cases h:cdT[i]? with
 |none=>exact zero_le _
 |some x=>exact(by decide:∀x∈cdT,x.length<=1) x (mem_of_getElem? h)
def nqT:List (List UInt8):=[[110,117,108,108],[113]]
theorem G3(i:Nat):([[.v (.string (bs [110,117,108,108]))],[.v (.string (bs [113]))]]:List (List C)).getD i [.v (.string (bs []))]=[.v (.string (bs (nqT.getD i [])))]:=MA nqT i
theorem dB(i:Nat):(nqT.getD i []).length<=4:=by
 simp only[List.getD]
 cases h:nqT[i]? with
 |none=>exact zero_le _
 |some x=>exact(by decide:∀x∈nqT,x.length<=4) x (mem_of_getElem? h)
def tuT:List (List UInt8):=[[116],[117]]
theorem G4(i:Nat):([[.v (.string (bs [116]))],[.v (.string (bs [117]))]]:List (List C)).getD i [.v (.string (bs []))]=[.v (.string (bs (tuT.getD i [])))]:=MA tuT i
theorem T4(i:Nat):(tuT.getD i []).length<=1:=by
 simp only[List.getD]
 cases h:tuT[i]? with
 |none=>exact zero_le _
 |some x=>exact(by decide:∀x∈tuT,x.length<=1) x (mem_of_getElem? h)
def eqT:List (List UInt8):=[[32,61,61,32,110,117,108,108],[32,33,61,32,110,117,108,108]]
theorem G5(i:Nat):([[.v (.string (bs [32,61,61,32,110,117,108,108]))],[.v (.string (bs [32,33,61,32,110,117,108,108]))]]:List (List C)).getD i [.v (.string (bs []))]=[.v (.string (bs (eqT.getD i [])))]:=MA eqT i
theorem Wl(i:Nat):(eqT.getD i []).length<=8:=by
 simp only[List.getD]
 cases h:eqT[i]? with
 |none=>exact zero_le _
 |some x=>exact(by decide:∀x∈eqT,x.length<=8) x (mem_of_getElem? h)
def hdT:List (List UInt8):=[[102,110,32,102,40,120,41],[102,110,32,103,40,120,44,32,121,41],[102,110,32,104,40,42,112,41],[102,110,32,107,40,120,44,32,42,112,41]]
theorem G6(i:Nat):([[.v (.string (bs [102,110,32,102,40,120,41]))],[.v (.string (bs [102,110,32,103,40,120,44,32,121,41]))],[.v (.string (bs [102,110,32,104,40,42,112,41]))],[.v (.string (bs [102,110,32,107,40,120,44,32,42,112,41]))]]:List (List C)).getD i [.v (.string (bs []))]=[.v (.string (bs (hdT.getD i [])))]:=MA hdT i
theorem dC(i:Nat):(hdT.getD i []).length<=11:=by
 simp only[List.getD]
 cases h:hdT[i]? with
 |none=>exact zero_le _
 |some x=>exact(by decide:∀x∈hdT,x.length<=11) x (mem_of_getElem? h)
def nmT:List (List UInt8):=[[102],[103],[104],[107]]
theorem G7(i:Nat):([[.v (.string (bs [102]))],[.v (.string (bs [103]))],[.v (.string (bs [104]))],[.v (.string (bs [107]))]]:List (List C)).getD i [.v (.string (bs []))]=[.v (.string (bs (nmT.getD i [])))]:=MA nmT i
theorem tC(i:Nat):(nmT.getD i []).length<=1:=by
 simp only[List.getD]
 cases h:nmT[i]? with
 |none=>exact zero_le _
 |some x=>exact(by decide:∀x∈nmT,x.length<=1) x (mem_of_getElem? h)
def okM(m:Mk)(c:Int):Prop:=0<=m.i/\m.i+c<=4294967296/\∀x∈m.b,0<=x/\x<256
def UU(m:Mk):Int:=if decide (m.i<(m.b.length:Int))=true then w64i (m.b.getD m.i.toNat 0) else 0
def nxM(m:Mk):Mk:={ m with i:=w64i (m.i+1) }
def nxV(j:Int)(m:Mk):Int:=(UU m).tmod j
structure Ax(m q:Mk)(c:Int):Prop where
 lo:m.i<=q.i
 hi:q.i<=m.i+c
 b:q.b=m.b
theorem Ax.refl(m:Mk):Ax m m 0:=⟨Int.le_refl _,by omega,rfl⟩
theorem Ax.trans{m q r:Mk}{c d:Int}(h:Ax m q c)(h':Ax q r d):Ax m r (c+d):=⟨Int.le_trans h.lo h'.lo,by have:=h.hi;have:=h'.hi;omega,h'.b.trans h.b⟩
theorem Ax.mono{m q:Mk}{c d:Int}(h:Ax m q c)(hd:c<=d):Ax m q d:=⟨h.lo,by have:=h.hi;omega,h.b⟩
theorem Ax.ok{m q:Mk}{c d:Int}(h:Ax m q c)(ho:okM m (c+d)):okM q d:=⟨by have:=h.lo;have:=ho.1;omega,by have:=h.hi;have:=ho.2.1;omega,by rw[h.b];exact ho.2.2⟩
theorem okM.mono{m:Mk}{c d:Int}(h:okM m c)(hd:d<=c):okM m d:=⟨h.1,by have:=h.2.1;omega,h.2.2⟩
theorem CL{m:Mk}(h:okM m 1):Ax m (nxM m) 1:=by
 have h1:=h.1;have h2:=h.2.1
 have e:(nxM m).i=m.i+1:=wrap_i64 (by omega) (by omega)
 exact⟨by omega,by omega,rfl⟩
theorem yI{m:Mk}{c:Int}(h:okM m c):0<=UU m:=by
 unfold UU
 split
 .have h3:0<=m.b.getD m.i.toNat 0/\m.b.getD m.i.toNat 0<256:=by
   simp only[List.getD]
   cases e:m.b[m.i.toNat]? with
   |none=>simp
   |some x=>exact h.2.2 x (mem_of_getElem? e)
  have e:w64i (m.b.getD m.i.toNat 0)=m.b.getD m.i.toNat 0:=wrap_i64 (by omega) (by omega)
  rw[e];exact h3.1
 exact Int.le_refl _
theorem E7{m:Mk}{c j:Int}(h:okM m c)(hj:0<j):0<=nxV j m/\nxV j m<j:=by
 have h1:=yI h
 exact⟨Int.tmod_nonneg j h1,Int.tmod_lt_of_pos _ hj⟩
abbrev tD(m:Mk)(j:Int):Prop:=okM m 1/\j≠0
abbrev T5(m:Mk)(j:Int):SV:=.one (.v (.int .i64 (nxV j m)))
abbrev T6(m:Mk)(j:Int):List (Option MV):=[some (zMk,[(nxM m).c])]
noncomputable abbrev NM:ArgM ((Mk)×(Int)×Unit):=(amP (mMk) (amD (cInt .i64) am0))
abbrev tE:Prop:=C7 Tryz.prog 69 ((NM).args 0) (NM).mem (λp:(Mk)×(Int)×Unit=>tD p.1 p.2.1) (λp:(Mk)×(Int)×Unit=>T5 p.1 p.2.1) (λp:(Mk)×(Int)×Unit=>T6 p.1 p.2.1)
section
attribute [local go_sem] Mk.c byD A35 G2 G1 G5 G6 Fy HE HD HC Fm G7 G3 FB G0 G4 zBy
theorem yJ:tE:=by
 rintro ⟨m,j,_u⟩ w M I lab fz xs hc hA hl hx
 refine Ac Tryz.func69 rfl ((NM).mem ⟨m,j,_u⟩) w M I lab fz [] [] ((NM).args 0 ⟨m,j,_u⟩) ((λp:(Mk)×(Int)×Unit=>T6 p.1 p.2.1) ⟨m,j,_u⟩) ((λp:(Mk)×(Int)×Unit=>T5 p.1 p.2.1) ⟨m,j,_u⟩) xs hA hl hx (λv hv k hk=>by have:=(NM).an 0 ⟨m,j,_u⟩ v hv k hk;omega) (jN rfl) (jN rfl) ?_
 clear hx hl hA xs
 simp only[Tryz.f69]
 obtain⟨h0,hk⟩:=hc
 dsimp only at h0 hk
 have h1:=h0.1
 cases hd:decide (m.i<(m.b.length:Int)) with
 |true=>
  have hd2:=of_decide_eq_true hd
  have hr:UU m=w64i (m.b.getD m.i.toNat 0):=by simp only[UU];rw[if_pos hd]
  simp only[seval,go_sem,hd]
  repeat refine AX ?_
  refine A1 [] ?_;simp only[seval,go_sem,bne,T5,T6,nxV,nxM,hr]
 |false=>
 have hr:UU m=0:=by simp only[UU];rw[if_neg (by rw[hd];decide)]
 simp only[seval,go_sem,hd]
 repeat refine AX ?_
 refine A1 [] ?_;simp only[seval,go_sem,bne,T5,T6,nxV,nxM,hr]
theorem KF7{p:Prop}(h:p:=by intro p _;exact yH _):p:=h
noncomputable def CV{X:Ctx}{w0:World}:Sy.Spec Tryz.prog X w0:=D0 69 Tryz.call69 (NM) _ _ _ KF1 KF0 KF7 yJ
abbrev T:=List UInt8×Mk
def nuT(m:Mk):T:=(numT.getD (nxV 8 m).toNat [],nxM m)
def BB(m:Mk):T:=(ivT.getD (nxV 6 m).toNat [],nxM m)
def pvT(s:Int)(m:Mk):T:=if decide (2<=s.tmod 4)=true then (if (nxV 2 m==0)=true then ([112],nxM m) else ([113],nxM m)) else ([113],m)
abbrev yK(m:Mk):Prop:=okM m 1
abbrev Zh(m:Mk):SV:=.one (.v (.string (bs (nuT m).1)))
abbrev Zj(m:Mk):List (Option MV):=[some (zMk,[(nuT m).2.c])]
noncomputable abbrev Pu:ArgM ((Mk)×Unit):=(amP (mMk) am0)
abbrev yL:Prop:=C7 Tryz.prog 81 ((Pu).args 0) (Pu).mem (λp:(Mk)×Unit=>yK p.1) (λp:(Mk)×Unit=>Zh p.1) (λp:(Mk)×Unit=>Zj p.1)
theorem A36:yL:=by
 rintro ⟨m,_u⟩ w M I lab fz xs hc hA hl hx
 refine Ac Tryz.func81 rfl ((Pu).mem ⟨m,_u⟩) w M I lab fz [CV] [] ((Pu).args 0 ⟨m,_u⟩) ((λp:(Mk)×Unit=>Zj p.1) ⟨m,_u⟩) ((λp:(Mk)×Unit=>Zh p.1) ⟨m,_u⟩) xs hA hl hx (λv hv k hk=>by have:=(Pu).an 0 ⟨m,_u⟩ v hv k hk;omega) (jN rfl) (jN rfl) ?_
 clear hx hl hA xs
 simp only[Tryz.f81]
 have h0:okM m 1:=hc
 have h1:=E7 (j:=8) h0 (by decide)
 simp only[seval,go_sem,CV]
 repeat refine AX ?_
 refine A1 [] ?_;simp only[seval,go_sem,bne,Zh,Zj,nuT]
noncomputable def LB{X:Ctx}{w0:World}:Sy.Spec Tryz.prog X w0:=D0 81 Tryz.call81 (Pu) _ _ _ KF1 KF0 KF7 A36
abbrev tF(m:Mk):Prop:=okM m 1
abbrev Wm(m:Mk):SV:=.one (.v (.string (bs (BB m).1)))
abbrev Wn(m:Mk):List (Option MV):=[some (zMk,[(BB m).2.c])]
noncomputable abbrev NN:ArgM ((Mk)×Unit):=(amP (mMk) am0)
abbrev tG:Prop:=C7 Tryz.prog 71 ((NN).args 0) (NN).mem (λp:(Mk)×Unit=>tF p.1) (λp:(Mk)×Unit=>Wm p.1) (λp:(Mk)×Unit=>Wn p.1)
theorem yM:tG:=by
 rintro ⟨m,_u⟩ w M I lab fz xs hc hA hl hx
 refine Ac Tryz.func71 rfl ((NN).mem ⟨m,_u⟩) w M I lab fz [CV] [] ((NN).args 0 ⟨m,_u⟩) ((λp:(Mk)×Unit=>Wn p.1) ⟨m,_u⟩) ((λp:(Mk)×Unit=>Wm p.1) ⟨m,_u⟩) xs hA hl hx (λv hv k hk=>by have:=(NN).an 0 ⟨m,_u⟩ v hv k hk;omega) (jN rfl) (jN rfl) ?_
 clear hx hl hA xs
 simp only[Tryz.f71]
 have h0:okM m 1:=hc
 have h1:=E7 (j:=6) h0 (by decide)
 simp only[seval,go_sem,CV]
 repeat refine AX ?_
 refine A1 [] ?_;simp only[seval,go_sem,bne,Wm,Wn,BB]
noncomputable def EG{X:Ctx}{w0:World}:Sy.Spec Tryz.prog X w0:=D0 71 Tryz.call71 (NN) _ _ _ KF1 KF0 KF7 yM
abbrev tH(m:Mk)(s:Int):Prop:=okM m 1
abbrev Pv(m:Mk)(s:Int):SV:=.one (.v (.string (bs (pvT s m).1)))
abbrev Pw(m:Mk)(s:Int):List (Option MV):=[some (zMk,[(pvT s m).2.c])]
noncomputable abbrev NO:ArgM ((Mk)×(Int)×Unit):=(amP (mMk) (amD (cInt .i64) am0))
abbrev tI:Prop:=C7 Tryz.prog 83 ((NO).args 0) (NO).mem (λp:(Mk)×(Int)×Unit=>tH p.1 p.2.1) (λp:(Mk)×(Int)×Unit=>Pv p.1 p.2.1) (λp:(Mk)×(Int)×Unit=>Pw p.1 p.2.1)
theorem yN:tI:=by
 rintro ⟨m,s,_u⟩ w M I lab fz xs hc hA hl hx
 refine Ac Tryz.func83 rfl ((NO).mem ⟨m,s,_u⟩) w M I lab fz [CV] [] ((NO).args 0 ⟨m,s,_u⟩) ((λp:(Mk)×(Int)×Unit=>Pw p.1 p.2.1) ⟨m,s,_u⟩) ((λp:(Mk)×(Int)×Unit=>Pv p.1 p.2.1) ⟨m,s,_u⟩) xs hA hl hx (λv hv k hk=>by have:=(NO).an 0 ⟨m,s,_u⟩ v hv k hk;omega) (jN rfl) (jN rfl) ?_
 clear hx hl hA xs
 simp only[Tryz.f83]
 have h0:okM m 1:=hc
 have h1:=E7 (j:=2) h0 (by decide)
 cases h2:decide (2<=s.tmod 4) with
 |true=>
  cases h3:(nxV 2 m==0) with
  |true=>
   have hr:pvT s m=([112],nxM m):=by simp only[pvT];rw[if_pos h2,if_pos h3]
   simp only[seval,go_sem,CV,h2,h3]
   exact AAb
  |false=>
  have hr:pvT s m=([113],nxM m):=by simp only[pvT];rw[if_pos h2,if_neg (by rw[h3];decide)]
  simp only[seval,go_sem,CV,h2,h3]
  exact AAb
 |false=>
 have hr:pvT s m=([113],m):=by simp only[pvT];rw[if_neg (by rw[h2];decide)]
 simp only[seval,go_sem,CV,h2]
 exact AAb
noncomputable def Iq{X:Ctx}{w0:World}:Sy.Spec Tryz.prog X w0:=D0 83 Tryz.call83 (NO) _ _ _ KF1 KF0 KF7 yN
end
open Go Go.Sy Go.RowKit
theorem fL{m:Mk}(h:okM m 1):Ax m (nuT m).2 1:=CL h
theorem Fs{m:Mk}(h:okM m 1):Ax m (BB m).2 1:=CL h
theorem Jp{s:Int}{m:Mk}(h:okM m 1):Ax m (pvT s m).2 1:=by
 unfold pvT
 split
 .split<;>exact CL h
 exact(Ax.refl m).mono (by decide)
theorem VL(m:Mk):(nuT m).1.length<=19:=mj _
theorem Dx(m:Mk):(BB m).1.length<=1:=tB _
theorem HJ(s:Int)(m:Mk):(pvT s m).1.length<=1:=by
 unfold pvT
 split
 .split<;>exact Nat.le_refl _
 exact Nat.le_refl _
def AY:Nat->Mk->T
 |0,m=>if decide (nxV 12 m<7)=true then nuT (nxM m) else BB (nxM m)
 |k+1,m=>
  if decide (nxV 12 m<3)=true then nuT (nxM m)
  else if decide (nxV 12 m<6)=true then BB (nxM m)
  else if (nxV 12 m==6)=true then ([45]++(BB (nxM m)).1,(BB (nxM m)).2)
  else if (nxV 12 m==11)=true then (([40]++(AY k (nxM m)).1)++[41,32,45,32]++(BB (AY k (nxM m)).2).1,(BB (AY k (nxM m)).2).2)
  else ((((((AY k (nxM m)).1++[32])++opT.getD (nxV 5 (AY k (nxM m)).2).toNat [])++[32])++(BB (nxM (AY k (nxM m)).2)).1),(BB (nxM (AY k (nxM m)).2)).2)
theorem Ea:∀(k:Nat) {m:Mk},okM m (4*((k:Int)+1))->Ax m (AY k m).2 (4*((k:Int)+1))
 |0,m,h=>by
  have a1:=CL (h.mono (by decide))
  have o1:okM (nxM m) 1:=a1.ok (h.mono (by decide))
  simp only[AY]
  split
  .exact(a1.trans (fL o1)).mono (by decide)
  exact(a1.trans (Fs o1)).mono (by decide)
 |k+1,m,h=>by
  have a1:=CL (h.mono (by omega))
  have o1:okM (nxM m) (4*((k:Int)+1)+2):=a1.ok (h.mono (by omega))
  have a2:=Ea k (o1.mono (by omega))
  have o2:okM (AY k (nxM m)).2 2:=a2.ok (o1.mono (by omega))
  simp only[AY]
  split
  .exact(a1.trans (fL (o1.mono (by omega)))).mono (by omega)
  split
  .exact(a1.trans (Fs (o1.mono (by omega)))).mono (by omega)
  split
  .exact(a1.trans (Fs (o1.mono (by omega)))).mono (by omega)
  split
  .exact((a1.trans a2).trans (Fs (o2.mono (by omega)))).mono (by omega)
  have a3:=CL (o2.mono (by omega))
  exact(((a1.trans a2).trans a3).trans (Fs (a3.ok (o2.mono (by omega))))).mono (by omega)
theorem DW:∀(k:Nat) (m:Mk),(AY k m).1.length<=64*(k+1)
 |0,m=>by
  have h1:=VL (nxM m)
  have h2:=Dx (nxM m)
  simp only[AY]
  split<;>omega
 |k+1,m=>by
  have h1:=VL (nxM m)
  have h2:=Dx (nxM m)
  have h3:=DW k (nxM m)
  have h4:=Dx (AY k (nxM m)).2
  have h5:=cz (nxV 5 (AY k (nxM m)).2).toNat
  have h6:=Dx (nxM (AY k (nxM m)).2)
  simp only[AY]
  exact AA4
abbrev tJ(n:Nat)(m:Mk)(d:Int):Prop:=okM m (4*(d+1))/\0<=d/\d<(n:Int)/\d<=4
abbrev NP(n:Nat)(m:Mk)(d:Int):SV:=.one (.v (.string (bs (AY d.toNat m).1)))
abbrev NQ(n:Nat)(m:Mk)(d:Int):List (Option MV):=[some (zMk,[(AY d.toNat m).2.c])]
noncomputable abbrev NR:ArgM ((Mk)×(Int)×Unit):=(amP (mMk) (amD (cInt .i64) am0))
abbrev T7(n:Nat):Prop:=C7 Tryz.prog 82 ((NR).args 0) (NR).mem (λp:(Mk)×(Int)×Unit=>tJ n p.1 p.2.1) (λp:(Mk)×(Int)×Unit=>NP n p.1 p.2.1) (λp:(Mk)×(Int)×Unit=>NQ n p.1 p.2.1)
noncomputable def Hq{X:Ctx}{w0:World}(n:Nat)(h:T7 n):Sy.Spec Tryz.prog X w0:=D0 82 Tryz.call82 (NR) _ _ _ KF1 KF0 KF7 h
attribute [local go_sem] Mk.c G2 G1 G5 G6 Fy HE HD HC Fm G7 G3 FB G0 G4 Hq EG CV LB Iq zBy
set_option maxRecDepth 20000 in set_option maxHeartbeats 8000000 in
theorem tK(n:Nat)(hu:T7 n):T7 (n+1):=by
 rintro ⟨m,d,_u⟩ w M I lab fz xs hc hA hl hx
 refine Ac Tryz.func82 rfl ((NR).mem ⟨m,d,_u⟩) w M I lab fz [CV,LB,EG,(Hq n hu)] [] ((NR).args 0 ⟨m,d,_u⟩) ((λp:(Mk)×(Int)×Unit=>NQ (n+1) p.1 p.2.1) ⟨m,d,_u⟩) ((λp:(Mk)×(Int)×Unit=>NP (n+1) p.1 p.2.1) ⟨m,d,_u⟩) xs hA hl hx (λv hv k hk=>by have:=(NR).an 0 ⟨m,d,_u⟩ v hv k hk;omega) (jN rfl) (jN rfl) ?_
 clear hx hl hA xs
 simp only[Tryz.f82]
 obtain⟨o0,g0,g1,g2⟩:=hc
 dsimp only at o0 g0 g1 g2
 have a1:Ax m (nxM m) 1:=CL (okM.mono o0 (by omega))
 have o1:okM (nxM m) (4*(d+1)-1):=a1.ok (okM.mono o0 (by omega))
 cases hd0:decide (d<=0) with
 |true=>
  have hd1:d.toNat=0:=by have:=of_decide_eq_true hd0;omega
  cases v7:decide (nxV 12 m<7) with
  |true=>
   have hr:AY d.toNat m=nuT (nxM m):=by rw[hd1];simp only[AY];rw[if_pos v7]
   simp only[seval,go_sem,hd0,v7]
   try simp only[AD,AE]
   try exact KZ0
  |false=>
  have v3:decide (nxV 12 m<3)=false:=decide_eq_false (by have:=of_decide_eq_false v7;omega)
  have hr:AY d.toNat m=BB (nxM m):=by rw[hd1];simp only[AY];rw[if_neg (by rw[v7];decide)]
  simp only[seval,go_sem,hd0,v3,v7]
  try simp only[AD,AE]
  try exact KZ0
 |false=>
 obtain⟨k,hk⟩:∃k:Nat,d.toNat=k+1:=⟨d.toNat-1,by have:=of_decide_eq_false hd0;omega⟩
 obtain⟨d',hd'⟩:∃d':Int,d'=d-1:=⟨_,rfl⟩
 have hk':d'.toNat=k:=by omega
 have hdw:IntKind.i64.wrap (d-1)=d':=by rw[hd'];exact wrap_i64 (by omega) (by omega)
 have hdk:(k:Int)=d':=by have:=of_decide_eq_false hd0;omega
 have p0:0<=d':=by omega
 have p1:d'<(n:Int):=by omega
 have p2:d'<=4:=by omega
 have e0:AY d.toNat m=AY (k+1) m:=by rw[hk]
 cases v3:decide (nxV 12 m<3) with
 |true=>
  have hr:AY d.toNat m=nuT (nxM m):=by rw[e0];simp only[AY];rw[if_pos v3]
  simp only[seval,go_sem,hd0,v3]
  try simp only[AD,AE]
  try exact KZ0
 |false=>
 cases v6:decide (nxV 12 m<6) with
 |true=>
  have hr:AY d.toNat m=BB (nxM m):=by rw[e0];simp only[AY];rw[if_neg (by rw[v3];decide),if_pos v6]
  simp only[seval,go_sem,hd0,v3,v6]
  try simp only[AD,AE]
  try exact KZ0
 |false=>
 cases w6:(nxV 12 m==6) with
 |true=>
  have hr:AY d.toNat m=([45]++(BB (nxM m)).1,(BB (nxM m)).2):=by rw[e0];simp only[AY];rw[if_neg (by rw[v3];decide),if_neg (by rw[v6];decide),if_pos w6]
  have l1:=Dx (nxM m)
  simp only[seval,go_sem,hd0,v3,v6,w6]
  repeat' first|exact ck|with_reducible apply And.intro|intro _
  all_goals first|exact okM.mono o0 (by omega)|exact okM.mono o1 (by omega)|(simp only[jL3]at *;omega)|exact KZ|(refine A1 [] ?_;simp only[seval,go_sem,bne,NP,NQ,hr])
 |false=>
 have a2:Ax (nxM m) (AY k (nxM m)).2 (4*(d'+1)):=by have h:=Ea k (m:=nxM m) (by rw[hdk];exact okM.mono o1 (by omega));rw[hdk]at h;exact h
 have o2:okM (AY k (nxM m)).2 2:=a2.ok (okM.mono o1 (by omega))
 have a3:=CL (okM.mono o2 (by omega):okM _ 1)
 have o3:okM (nxM (AY k (nxM m)).2) 1:=a3.ok (okM.mono o2 (by omega))
 have l2:=DW k (nxM m)
 have hkb:k<=4:=by omega
 cases w11:(nxV 12 m==11) with
 |true=>
  have hr:AY d.toNat m=(([40]++(AY k (nxM m)).1)++[41,32,45,32]++(BB (AY k (nxM m)).2).1,(BB (AY k (nxM m)).2).2):=by rw[e0];simp only[AY];rw[if_neg (by rw[v3];decide),if_neg (by rw[v6];decide),if_neg (by rw[w6];decide),if_pos w11]
  have l3:=Dx (AY k (nxM m)).2
  simp only[seval,go_sem,hd0,v3,v6,w6,w11,hdw,hk']
  repeat' first|exact ck|with_reducible apply And.intro|intro _
  all_goals first|exact okM.mono o0 (by omega)|exact okM.mono o1 (by omega)|exact okM.mono o2 (by omega)|exact p0|exact p1|exact p2|(simp only[jL3]at *;omega)|exact KZ|(refine A1 [] ?_;simp only[seval,go_sem,bne,NP,NQ,hr])
 |false=>
 have hr:AY d.toNat m=((((((AY k (nxM m)).1++[32])++opT.getD (nxV 5 (AY k (nxM m)).2).toNat [])++[32])++(BB (nxM (AY k (nxM m)).2)).1),(BB (nxM (AY k (nxM m)).2)).2):=by rw[e0];simp only[AY];rw[if_neg (by rw[v3];decide),if_neg (by rw[v6];decide),if_neg (by rw[w6];decide),if_neg (by rw[w11];decide)]
 have l3:=cz (nxV 5 (AY k (nxM m)).2).toNat
 have l4:=Dx (nxM (AY k (nxM m)).2)
 have q5:=E7 (j:=5) o2 (by decide)
 simp only[seval,go_sem,hd0,v3,v6,w6,w11,hdw,hk']
 repeat' first|exact ck|with_reducible apply And.intro|intro _
 all_goals first|exact okM.mono o0 (by omega)|exact okM.mono o1 (by omega)|exact okM.mono o2 (by omega)|exact okM.mono o3 (by omega)|exact p0|exact p1|exact p2|(simp only[jL3]at *;omega)|exact KZ|(refine A1 [] ?_;simp only[seval,go_sem,bne,NP,NQ,hr])
theorem VM:∀n:Nat,T7 n
 |0=>by
  rintro ⟨m,d,_u⟩ w M I lab fz xs hc hA hl hx
  exact AAp
 |n+1=>tK n (VM n)
end Go.Proofs.YtapedeoheilnnaaGreat
