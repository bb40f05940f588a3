/- The maker's small functions. No conditions but those in each statement. -/
import Derived.Test.YtapedeoheilnnaaGreatMi1
set_option linter.all false
open Nat (zero_le)
open List (length_append length_cons length_nil mem_of_getElem?)
namespace Go.Proofs.YtapedeoheilnnaaGreat
open Go Go.Sy Go.RowKit
variable{d:Int}{P:Prop}
theorem KZ0(h:P:=by (repeat' first|exact ck|with_reducible apply And.intro|intro _);all_goals first|exact h1|exact KZ|(refine A1 [] ?_;simp only[seval,go_sem,bne,Wc,Wd,nxV,nxM,hr])):P:=h
theorem KZ1(h:P:=by (repeat' first|exact ck|with_reducible apply And.intro|intro _);all_goals first|exact h0|exact h1|exact KZ|(refine A1 [] ?_;simp only[seval,go_sem,bne,Wg,Wh,hr])):P:=h
theorem KZ2(h:P:=by (repeat' first|exact ck|with_reducible apply And.intro|intro _);all_goals first|exact okM.mono o0 (by omega)|exact okM.mono o1 (by omega)|exact KZ|(refine A1 [] ?_;simp only[seval,go_sem,bne,NF,NG,hr])):P:=h
structure Mk where
 b:List Int
 i:Int
 n:Int
theorem FY(p:Mk):(⟨p.b,p.i,p.n⟩:Mk)=p:=rfl
def byD(x:Int):List D:=[.v (.int .u8 x)]
def zBy:List D:=[.v (.int .u8 0)]
def Mk.c(p:Mk):List C:=[.d (.sl zBy (p.b.map byD)),.v (.int .i64 p.i),.v (.int .i64 p.n)]
abbrev zMk:List C:=[.v (.int .i64 0),.v (.int .i64 0),.v (.int .i64 0)]
theorem hY(a b:Int)(h:byD a=byD b):a=b:=by simpa [byD] using h
theorem sF(a b:Mk)(h:a.c=b.c):a=b:=by
 obtain⟨l,i,n⟩:=a
 obtain⟨l',i',n'⟩:=b
 simp only[Mk.c,List.cons.injEq,C.v.injEq,C.d.injEq,D.sl.injEq,Value.int.injEq,true_and,and_true]at h
 obtain⟨h1,rfl,rfl⟩:=h
 rw[Ac hY h1]
theorem iA(p:Mk):∀c∈p.c,c.names=[]:=by
 intro c hc
 simp only[Mk.c,List.mem_cons,List.not_mem_nil,or_false]at hc
 rcases hc with rfl|rfl|rfl<;>rfl
noncomputable def mMk:RowM Mk:=MH zMk Mk.c iA
theorem Gs:mMk.z=zMk:=rfl
theorem Gt:mMk.e=Mk.c:=rfl
theorem Gu(l:List Int)(i n:Int):mMk.d [.d (.sl [.v (.int .u8 0)] (l.map byD)),.v (.int .i64 i),.v (.int .i64 n)]=some ⟨l,i,n⟩:=J9 sF ⟨l,i,n⟩
theorem xW(p:Mk):∀q,some q∈[some ((zMk,[p.c]):MV)]->∀r∈q.2,∀c∈r,c.names=[]:=by
 intro q hq r hr c hc
 simp only[List.mem_singleton,jS]at hq
 subst hq
 simp only[List.mem_singleton]at hr
 subst hr
 exact iA p c hc
theorem A2s(l:List Int)(i:Nat):(l.map byD).getD i [.v (.int .u8 0)]=byD (l.getD i 0):=by
 simp only[List.getD,List.getElem?_map]
 cases l[i]?<;>rfl
theorem M4(l:List (List UInt8))(i:Nat):(l.map cS).getD i [.v (.string (bs []))]=cS (l.getD i []):=by
 simp only[List.getD,List.getElem?_map]
 cases l[i]?<;>rfl
def numT:List (List UInt8):=[[48],[49],[50],[51],[52],[49,48],[57,50,50,51,51,55,50,48,51,54,56,53,52,55,55,53,56,48,55],[55]]
theorem F3(i:Nat):([[.v (.string (bs [48]))],[.v (.string (bs [49]))],[.v (.string (bs [50]))],[.v (.string (bs [51]))],[.v (.string (bs [52]))],[.v (.string (bs [49,48]))],[.v (.string (bs [57,50,50,51,51,55,50,48,51,54,56,53,52,55,55,53,56,48,55]))],[.v (.string (bs [55]))]]:List (List C)).getD i [.v (.string (bs []))]=[.v (.string (bs (numT.getD i [])))]:=M4 numT i
theorem mE(i:Nat):(numT.getD i []).length<=19:=by
 simp only[List.getD]
 cases h:numT[i]? with
 |none=>exact zero_le _
 |some x=>exact(by decide:∀x∈numT,x.length<=19) x (mem_of_getElem? h)
def ivT:List (List UInt8):=[[97],[98],[120],[99],[100],[97]]
theorem Fm(i:Nat):([[.v (.string (bs [97]))],[.v (.string (bs [98]))],[.v (.string (bs [120]))],[.v (.string (bs [99]))],[.v (.string (bs [100]))],[.v (.string (bs [97]))]]:List (List C)).getD i [.v (.string (bs []))]=[.v (.string (bs (ivT.getD i [])))]:=M4 ivT i
theorem sG(i:Nat):(ivT.getD i []).length<=1:=by
 simp only[List.getD]
 cases h:ivT[i]? with
 |none=>exact zero_le _
 |some x=>exact(by decide:∀x∈ivT,x.length<=1) x (mem_of_getElem? h)
def opT:List (List UInt8):=[[43],[45],[42],[47],[37]]
theorem Fo(i:Nat):([[.v (.string (bs [43]))],[.v (.string (bs [45]))],[.v (.string (bs [42]))],[.v (.string (bs [47]))],[.v (.string (bs [37]))]]:List (List C)).getD i [.v (.string (bs []))]=[.v (.string (bs (opT.getD i [])))]:=M4 opT i
theorem cP(i:Nat):(opT.getD i []).length<=1:=by
 simp only[List.getD]
 cases h:opT[i]? with
 |none=>exact zero_le _
 |some x=>exact(by decide:∀x∈opT,x.length<=1) x (mem_of_getElem? h)
def cmT:List (List UInt8):=[[60],[60,61],[62],[62,61],[61,61],[33,61]]
theorem Fp(i:Nat):([[.v (.string (bs [60]))],[.v (.string (bs [60,61]))],[.v (.string (bs [62]))],[.v (.string (bs [62,61]))],[.v (.string (bs [61,61]))],[.v (.string (bs [33,61]))]]:List (List C)).getD i [.v (.string (bs []))]=[.v (.string (bs (cmT.getD i [])))]:=M4 cmT i
theorem Wa(i:Nat):(cmT.getD i []).length<=2:=by
 simp only[List.getD]
 cases h:cmT[i]? with
 |none=>exact zero_le _
 |some x=>exact(by decide:∀x∈cmT,x.length<=2) x (mem_of_getElem? h)
def cdT:List (List UInt8):=[[99],[100]]
theorem Fq(i:Nat):([[.v (.string (bs [99]))],[.v (.string (bs [100]))]]:List (List C)).getD i [.v (.string (bs []))]=[.v (.string (bs (cdT.getD i [])))]:=M4 cdT i
theorem cQ(i:Nat):(cdT.getD i []).length<=1:=by
 simp only[List.getD]
 cases h:cdT[i]? with
 |none=>exact zero_le _
 |some x=>exact(by decide:∀x∈cdT,x.length<=1) x (mem_of_getElem? h)
def nqT:List (List UInt8):=[[110,117,108,108],[113]]
theorem Fs(i:Nat):([[.v (.string (bs [110,117,108,108]))],[.v (.string (bs [113]))]]:List (List C)).getD i [.v (.string (bs []))]=[.v (.string (bs (nqT.getD i [])))]:=M4 nqT i
theorem cR(i:Nat):(nqT.getD i []).length<=4:=by
 simp only[List.getD]
 cases h:nqT[i]? with
 |none=>exact zero_le _
 |some x=>exact(by decide:∀x∈nqT,x.length<=4) x (mem_of_getElem? h)
def tuT:List (List UInt8):=[[116],[117]]
theorem Ft(i:Nat):([[.v (.string (bs [116]))],[.v (.string (bs [117]))]]:List (List C)).getD i [.v (.string (bs []))]=[.v (.string (bs (tuT.getD i [])))]:=M4 tuT i
theorem So(i:Nat):(tuT.getD i []).length<=1:=by
 simp only[List.getD]
 cases h:tuT[i]? with
 |none=>exact zero_le _
 |some x=>exact(by decide:∀x∈tuT,x.length<=1) x (mem_of_getElem? h)
def eqT:List (List UInt8):=[[32,61,61,32,110,117,108,108],[32,33,61,32,110,117,108,108]]
theorem Fv(i:Nat):([[.v (.string (bs [32,61,61,32,110,117,108,108]))],[.v (.string (bs [32,33,61,32,110,117,108,108]))]]:List (List C)).getD i [.v (.string (bs []))]=[.v (.string (bs (eqT.getD i [])))]:=M4 eqT i
theorem Wb(i:Nat):(eqT.getD i []).length<=8:=by
 simp only[List.getD]
 cases h:eqT[i]? with
 |none=>exact zero_le _
 |some x=>exact(by decide:∀x∈eqT,x.length<=8) x (mem_of_getElem? h)
def hdT:List (List UInt8):=[[102,110,32,102,40,120,41],[102,110,32,103,40,120,44,32,121,41],[102,110,32,104,40,42,112,41],[102,110,32,107,40,120,44,32,42,112,41]]
theorem Fw(i:Nat):([[.v (.string (bs [102,110,32,102,40,120,41]))],[.v (.string (bs [102,110,32,103,40,120,44,32,121,41]))],[.v (.string (bs [102,110,32,104,40,42,112,41]))],[.v (.string (bs [102,110,32,107,40,120,44,32,42,112,41]))]]:List (List C)).getD i [.v (.string (bs []))]=[.v (.string (bs (hdT.getD i [])))]:=M4 hdT i
theorem cT(i:Nat):(hdT.getD i []).length<=11:=by
 simp only[List.getD]
 cases h:hdT[i]? with
 |none=>exact zero_le _
 |some x=>exact(by decide:∀x∈hdT,x.length<=11) x (mem_of_getElem? h)
def nmT:List (List UInt8):=[[102],[103],[104],[107]]
theorem Fx(i:Nat):([[.v (.string (bs [102]))],[.v (.string (bs [103]))],[.v (.string (bs [104]))],[.v (.string (bs [107]))]]:List (List C)).getD i [.v (.string (bs []))]=[.v (.string (bs (nmT.getD i [])))]:=M4 nmT i
theorem sH(i:Nat):(nmT.getD i []).length<=1:=by
 simp only[List.getD]
 cases h:nmT[i]? with
 |none=>exact zero_le _
 |some x=>exact(by decide:∀x∈nmT,x.length<=1) x (mem_of_getElem? h)
def okM(m:Mk)(c:Int):Prop:=0<=m.i/\m.i+c<=4294967296/\∀x∈m.b,0<=x/\x<256
def UE(m:Mk):Int:=if decide (m.i<(m.b.length:Int))=true then w64i (m.b.getD m.i.toNat 0) else 0
def nxM(m:Mk):Mk:={ m with i:=w64i (m.i+1) }
def nxV(j:Int)(m:Mk):Int:=(UE m).tmod j
structure Ax(m q:Mk)(c:Int):Prop where
 lo:m.i<=q.i
 hi:q.i<=m.i+c
 b:q.b=m.b
theorem Ax.refl(m:Mk):Ax m m 0:=⟨Int.le_refl _,by omega,rfl⟩
theorem Ax.trans{m q r:Mk}{c:Int}(h:Ax m q c)(h':Ax q r d):Ax m r (c+d):=⟨Int.le_trans h.lo h'.lo,by have:=h.hi;have:=h'.hi;omega,h'.b.trans h.b⟩
theorem Ax.mono{m q:Mk}{c:Int}(h:Ax m q c)(hd:c<=d):Ax m q d:=⟨h.lo,by have:=h.hi;omega,h.b⟩
theorem Ax.ok{m q:Mk}{c:Int}(h:Ax m q c)(ho:okM m (c+d)):okM q d:=⟨by have:=h.lo;have:=ho.1;omega,by have:=h.hi;have:=ho.2.1;omega,by rw[h.b];exact ho.2.2⟩
theorem okM.mono{m:Mk}{c:Int}(h:okM m c)(hd:d<=c):okM m d:=⟨h.1,by have:=h.2.1;omega,h.2.2⟩
theorem C6{m:Mk}(h:okM m 1):Ax m (nxM m) 1:=by
 have h1:=h.1;have h2:=h.2.1
 have e:(nxM m).i=m.i+1:=wrap_i64 (by omega) (by omega)
 exact⟨by omega,by omega,rfl⟩
theorem xX{m:Mk}{c:Int}(h:okM m c):0<=UE m:=by
 unfold UE
 split
 .have h3:0<=m.b.getD m.i.toNat 0/\m.b.getD m.i.toNat 0<256:=by
   simp only[List.getD]
   cases e:m.b[m.i.toNat]? with
   |none=>simp
   |some x=>exact h.2.2 x (mem_of_getElem? e)
  have e:w64i (m.b.getD m.i.toNat 0)=m.b.getD m.i.toNat 0:=wrap_i64 (by omega) (by omega)
  rw[e];exact h3.1
 exact Int.le_refl _
theorem E0{m:Mk}{c j:Int}(h:okM m c)(hj:0<j):0<=nxV j m/\nxV j m<j:=by
 have h1:=xX h
 exact⟨Int.tmod_nonneg j h1,Int.tmod_lt_of_pos _ hj⟩
abbrev sJ(m:Mk)(j:Int):Prop:=okM m 1/\j≠0
abbrev Wc(m:Mk)(j:Int):SV:=.one (.v (.int .i64 (nxV j m)))
abbrev Wd(m:Mk)(j:Int):List (Option MV):=[some (zMk,[(nxM m).c])]
noncomputable abbrev NC:ArgM ((Mk)×(Int)×Unit):=(amP (mMk) (amD (cInt .i64) am0))
abbrev sK:Prop:=Bv Tryz.prog 69 ((NC).args 0) (NC).mem (λp:(Mk)×(Int)×Unit=>sJ p.1 p.2.1) (λp:(Mk)×(Int)×Unit=>Wc p.1 p.2.1) (λp:(Mk)×(Int)×Unit=>Wd p.1 p.2.1)
attribute [local go_sem] Mk.c byD A2s Fq Fp Fv Fw Fm Gu Gt Gs FY Fx Fs F3 Fo Ft zBy
theorem xY:sK:=by
 rintro ⟨m,j,_u⟩ w M I lab fz xs hc hA hl hx
 refine Aa Tryz.func69 rfl ((NC).mem ⟨m,j,_u⟩) w M I lab fz [] [] ((NC).args 0 ⟨m,j,_u⟩) ((λp:(Mk)×(Int)×Unit=>Wd p.1 p.2.1) ⟨m,j,_u⟩) ((λp:(Mk)×(Int)×Unit=>Wc p.1 p.2.1) ⟨m,j,_u⟩) xs hA hl hx (λv hv k hk=>by have:=(NC).an 0 ⟨m,j,_u⟩ v hv k hk;omega) (jN rfl) (jN rfl) ?_
 clear hx hl hA xs
 simp only[Tryz.f69]
 obtain⟨h0,hk⟩:=hc
 dsimp only at h0 hk
 have h1:=h0.1
 cases hd:decide (m.i<(m.b.length:Int)) with
 |true=>
  have hd2:=of_decide_eq_true hd
  have hr:UE m=w64i (m.b.getD m.i.toNat 0):=by simp only[UE];rw[if_pos hd]
  simp only[seval,go_sem,hd]
  try simp only[A2,A3]
  try exact KZ0
 |false=>
 have hr:UE m=0:=by simp only[UE];rw[if_neg (by rw[hd];decide)]
 simp only[seval,go_sem,hd]
 try simp only[A2,A3]
 try exact KZ0
theorem KF6{p:Prop}(h:p:=by intro p _;exact xW _):p:=h
noncomputable def CK{X:Ctx}{w0:World}:Sy.Spec Tryz.prog X w0:=Cl 69 Tryz.call69 (NC) _ _ _ KF1 KF0 KF6 xY
abbrev T:=List UInt8×Mk
def nuT(m:Mk):T:=(numT.getD (nxV 8 m).toNat [],nxM m)
def B7(m:Mk):T:=(ivT.getD (nxV 6 m).toNat [],nxM m)
def pvT(s:Int)(m:Mk):T:=if decide (2<=s.tmod 4)=true then (if (nxV 2 m==0)=true then ([112],nxM m) else ([113],nxM m)) else ([113],m)
abbrev xZ(m:Mk):Prop:=okM m 1
abbrev ZN(m:Mk):SV:=.one (.v (.string (bs (nuT m).1)))
abbrev ZO(m:Mk):List (Option MV):=[some (zMk,[(nuT m).2.c])]
noncomputable abbrev PY:ArgM ((Mk)×Unit):=(amP (mMk) am0)
abbrev xc:Prop:=Bv Tryz.prog 81 ((PY).args 0) (PY).mem (λp:(Mk)×Unit=>xZ p.1) (λp:(Mk)×Unit=>ZN p.1) (λp:(Mk)×Unit=>ZO p.1)
theorem A2t:xc:=by
 rintro ⟨m,_u⟩ w M I lab fz xs hc hA hl hx
 refine Aa Tryz.func81 rfl ((PY).mem ⟨m,_u⟩) w M I lab fz [CK] [] ((PY).args 0 ⟨m,_u⟩) ((λp:(Mk)×Unit=>ZO p.1) ⟨m,_u⟩) ((λp:(Mk)×Unit=>ZN p.1) ⟨m,_u⟩) xs hA hl hx (λv hv k hk=>by have:=(PY).an 0 ⟨m,_u⟩ v hv k hk;omega) (jN rfl) (jN rfl) ?_
 clear hx hl hA xs
 simp only[Tryz.f81]
 have h0:okM m 1:=hc
 have h1:=E0 (j:=8) h0 (by decide)
 simp only[seval,go_sem,CK]
 try simp only[A2,A3]
 repeat' first|exact ck|with_reducible apply And.intro|intro _
 all_goals first|exact h0|exact h1|exact KZ|(refine A1 [] ?_;simp only[seval,go_sem,bne,ZN,ZO,nuT])
noncomputable def L4{X:Ctx}{w0:World}:Sy.Spec Tryz.prog X w0:=Cl 81 Tryz.call81 (PY) _ _ _ KF1 KF0 KF6 A2t
abbrev sM(m:Mk):Prop:=okM m 1
abbrev We(m:Mk):SV:=.one (.v (.string (bs (B7 m).1)))
abbrev Wf(m:Mk):List (Option MV):=[some (zMk,[(B7 m).2.c])]
noncomputable abbrev ND:ArgM ((Mk)×Unit):=(amP (mMk) am0)
abbrev sN:Prop:=Bv Tryz.prog 71 ((ND).args 0) (ND).mem (λp:(Mk)×Unit=>sM p.1) (λp:(Mk)×Unit=>We p.1) (λp:(Mk)×Unit=>Wf p.1)
theorem xd:sN:=by
 rintro ⟨m,_u⟩ w M I lab fz xs hc hA hl hx
 refine Aa Tryz.func71 rfl ((ND).mem ⟨m,_u⟩) w M I lab fz [CK] [] ((ND).args 0 ⟨m,_u⟩) ((λp:(Mk)×Unit=>Wf p.1) ⟨m,_u⟩) ((λp:(Mk)×Unit=>We p.1) ⟨m,_u⟩) xs hA hl hx (λv hv k hk=>by have:=(ND).an 0 ⟨m,_u⟩ v hv k hk;omega) (jN rfl) (jN rfl) ?_
 clear hx hl hA xs
 simp only[Tryz.f71]
 have h0:okM m 1:=hc
 have h1:=E0 (j:=6) h0 (by decide)
 simp only[seval,go_sem,CK]
 try simp only[A2,A3]
 repeat' first|exact ck|with_reducible apply And.intro|intro _
 all_goals first|exact h0|exact h1|exact KZ|(refine A1 [] ?_;simp only[seval,go_sem,bne,We,Wf,B7])
noncomputable def E4{X:Ctx}{w0:World}:Sy.Spec Tryz.prog X w0:=Cl 71 Tryz.call71 (ND) _ _ _ KF1 KF0 KF6 xd
abbrev sO(m:Mk)(s:Int):Prop:=okM m 1
abbrev Wg(m:Mk)(s:Int):SV:=.one (.v (.string (bs (pvT s m).1)))
abbrev Wh(m:Mk)(s:Int):List (Option MV):=[some (zMk,[(pvT s m).2.c])]
noncomputable abbrev NE:ArgM ((Mk)×(Int)×Unit):=(amP (mMk) (amD (cInt .i64) am0))
abbrev sP:Prop:=Bv Tryz.prog 83 ((NE).args 0) (NE).mem (λp:(Mk)×(Int)×Unit=>sO p.1 p.2.1) (λp:(Mk)×(Int)×Unit=>Wg p.1 p.2.1) (λp:(Mk)×(Int)×Unit=>Wh p.1 p.2.1)
theorem xe:sP:=by
 rintro ⟨m,s,_u⟩ w M I lab fz xs hc hA hl hx
 refine Aa Tryz.func83 rfl ((NE).mem ⟨m,s,_u⟩) w M I lab fz [CK] [] ((NE).args 0 ⟨m,s,_u⟩) ((λp:(Mk)×(Int)×Unit=>Wh p.1 p.2.1) ⟨m,s,_u⟩) ((λp:(Mk)×(Int)×Unit=>Wg p.1 p.2.1) ⟨m,s,_u⟩) xs hA hl hx (λv hv k hk=>by have:=(NE).an 0 ⟨m,s,_u⟩ v hv k hk;omega) (jN rfl) (jN rfl) ?_
 clear hx hl hA xs
 simp only[Tryz.f83]
 have h0:okM m 1:=hc
 have h1:=E0 (j:=2) h0 (by decide)
 cases h2:decide (2<=s.tmod 4) with
 |true=>
  cases h3:(nxV 2 m==0) with
  |true=>
   have hr:pvT s m=([112],nxM m):=by simp only[pvT];rw[if_pos h2,if_pos h3]
   simp only[seval,go_sem,CK,h2,h3]
   try simp only[A2,A3]
   try exact KZ1
  |false=>
  have hr:pvT s m=([113],nxM m):=by simp only[pvT];rw[if_pos h2,if_neg (by rw[h3];decide)]
  simp only[seval,go_sem,CK,h2,h3]
  try simp only[A2,A3]
  try exact KZ1
 |false=>
 have hr:pvT s m=([113],m):=by simp only[pvT];rw[if_neg (by rw[h2];decide)]
 simp only[seval,go_sem,CK,h2]
 try simp only[A2,A3]
 try exact KZ1
noncomputable def Ib{X:Ctx}{w0:World}:Sy.Spec Tryz.prog X w0:=Cl 83 Tryz.call83 (NE) _ _ _ KF1 KF0 KF6 xe
theorem eZ{m:Mk}(h:okM m 1):Ax m (nuT m).2 1:=C6 h
theorem Fh{m:Mk}(h:okM m 1):Ax m (B7 m).2 1:=C6 h
theorem Jf{s:Int}{m:Mk}(h:okM m 1):Ax m (pvT s m).2 1:=by
 unfold pvT
 split
 .split<;>exact C6 h
 exact(Ax.refl m).mono (by decide)
theorem V3(m:Mk):(nuT m).1.length<=19:=mE _
theorem Do(m:Mk):(B7 m).1.length<=1:=sG _
theorem H5(s:Int)(m:Mk):(pvT s m).1.length<=1:=by
 unfold pvT
 split
 .split<;>exact Nat.le_refl _
 exact Nat.le_refl _
def AV:Nat->Mk->T
 |0,m=>if decide (nxV 12 m<7)=true then nuT (nxM m) else B7 (nxM m)
 |k+1,m=>
  if decide (nxV 12 m<3)=true then nuT (nxM m)
  else if decide (nxV 12 m<6)=true then B7 (nxM m)
  else if (nxV 12 m==6)=true then ([45]++(B7 (nxM m)).1,(B7 (nxM m)).2)
  else if (nxV 12 m==11)=true then (([40]++(AV k (nxM m)).1)++[41,32,45,32]++(B7 (AV k (nxM m)).2).1,(B7 (AV k (nxM m)).2).2)
  else ((((((AV k (nxM m)).1++[32])++opT.getD (nxV 5 (AV k (nxM m)).2).toNat [])++[32])++(B7 (nxM (AV k (nxM m)).2)).1),(B7 (nxM (AV k (nxM m)).2)).2)
theorem EU:∀(k:Nat) {m:Mk},okM m (4*((k:Int)+1))->Ax m (AV k m).2 (4*((k:Int)+1))
 |0,m,h=>by
  have a1:=C6 (h.mono (by decide))
  have o1:okM (nxM m) 1:=a1.ok (h.mono (by decide))
  simp only[AV]
  split
  .exact(a1.trans (eZ o1)).mono (by decide)
  exact(a1.trans (Fh o1)).mono (by decide)
 |k+1,m,h=>by
  have a1:=C6 (h.mono (by omega))
  have o1:okM (nxM m) (4*((k:Int)+1)+2):=a1.ok (h.mono (by omega))
  have a2:=EU k (o1.mono (by omega))
  have o2:okM (AV k (nxM m)).2 2:=a2.ok (o1.mono (by omega))
  simp only[AV]
  split
  .exact(a1.trans (eZ (o1.mono (by omega)))).mono (by omega)
  split
  .exact(a1.trans (Fh (o1.mono (by omega)))).mono (by omega)
  split
  .exact(a1.trans (Fh (o1.mono (by omega)))).mono (by omega)
  split
  .exact((a1.trans a2).trans (Fh (o2.mono (by omega)))).mono (by omega)
  have a3:=C6 (o2.mono (by omega))
  exact(((a1.trans a2).trans a3).trans (Fh (a3.ok (o2.mono (by omega))))).mono (by omega)
theorem DF:∀(k:Nat) (m:Mk),(AV k m).1.length<=64*(k+1)
 |0,m=>by
  have h1:=V3 (nxM m)
  have h2:=Do (nxM m)
  simp only[AV]
  split<;>omega
 |k+1,m=>by
  have h1:=V3 (nxM m)
  have h2:=Do (nxM m)
  have h3:=DF k (nxM m)
  have h4:=Do (AV k (nxM m)).2
  have h5:=cP (nxV 5 (AV k (nxM m)).2).toNat
  have h6:=Do (nxM (AV k (nxM m)).2)
  simp only[AV]
  repeat' split
  all_goals (try simp only[jL3])
  all_goals omega
abbrev sQ(n:Nat)(m:Mk)(d:Int):Prop:=okM m (4*(d+1))/\0<=d/\d<(n:Int)/\d<=4
abbrev NF(n:Nat)(m:Mk)(d:Int):SV:=.one (.v (.string (bs (AV d.toNat m).1)))
abbrev NG(n:Nat)(m:Mk)(d:Int):List (Option MV):=[some (zMk,[(AV d.toNat m).2.c])]
noncomputable abbrev NH:ArgM ((Mk)×(Int)×Unit):=(amP (mMk) (amD (cInt .i64) am0))
abbrev Sp(n:Nat):Prop:=Bv Tryz.prog 82 ((NH).args 0) (NH).mem (λp:(Mk)×(Int)×Unit=>sQ n p.1 p.2.1) (λp:(Mk)×(Int)×Unit=>NF n p.1 p.2.1) (λp:(Mk)×(Int)×Unit=>NG n p.1 p.2.1)
noncomputable def Hl{X:Ctx}{w0:World}(n:Nat)(h:Sp n):Sy.Spec Tryz.prog X w0:=Cl 82 Tryz.call82 (NH) _ _ _ KF1 KF0 KF6 h
attribute [local go_sem] Mk.c Fq Fp Fv Fw Fm Gu Gt Gs FY Fx Fs F3 Fo Ft Hl E4 CK L4 Ib zBy
set_option maxRecDepth 20000 in set_option maxHeartbeats 8000000 in
theorem sS(n:Nat)(hu:Sp n):Sp (n+1):=by
 rintro ⟨m,d,_u⟩ w M I lab fz xs hc hA hl hx
 refine Aa Tryz.func82 rfl ((NH).mem ⟨m,d,_u⟩) w M I lab fz [CK,L4,E4,(Hl n hu)] [] ((NH).args 0 ⟨m,d,_u⟩) ((λp:(Mk)×(Int)×Unit=>NG (n+1) p.1 p.2.1) ⟨m,d,_u⟩) ((λp:(Mk)×(Int)×Unit=>NF (n+1) p.1 p.2.1) ⟨m,d,_u⟩) xs hA hl hx (λv hv k hk=>by have:=(NH).an 0 ⟨m,d,_u⟩ v hv k hk;omega) (jN rfl) (jN rfl) ?_
 clear hx hl hA xs
 simp only[Tryz.f82]
 obtain⟨o0,g0,g1,g2⟩:=hc
 dsimp only at o0 g0 g1 g2
 have a1:Ax m (nxM m) 1:=C6 (okM.mono o0 (by omega))
 have o1:okM (nxM m) (4*(d+1)-1):=a1.ok (okM.mono o0 (by omega))
 cases hd0:decide (d<=0) with
 |true=>
  have hd1:d.toNat=0:=by have:=of_decide_eq_true hd0;omega
  cases v7:decide (nxV 12 m<7) with
  |true=>
   have hr:AV d.toNat m=nuT (nxM m):=by rw[hd1];simp only[AV];rw[if_pos v7]
   simp only[seval,go_sem,hd0,v7]
   try simp only[A2,A3]
   try exact KZ2
  |false=>
  have v3:decide (nxV 12 m<3)=false:=decide_eq_false (by have:=of_decide_eq_false v7;omega)
  have hr:AV d.toNat m=B7 (nxM m):=by rw[hd1];simp only[AV];rw[if_neg (by rw[v7];decide)]
  simp only[seval,go_sem,hd0,v3,v7]
  try simp only[A2,A3]
  try exact KZ2
 |false=>
 obtain⟨k,hk⟩:∃k:Nat,d.toNat=k+1:=⟨d.toNat-1,by have:=of_decide_eq_false hd0;omega⟩
 obtain⟨d',hd'⟩:∃d':Int,d'=d-1:=⟨_,rfl⟩
 have hk':d'.toNat=k:=by omega
 have hdw:IntKind.i64.wrap (d-1)=d':=by rw[hd'];exact wrap_i64 (by omega) (by omega)
 have hdk:(k:Int)=d':=by have:=of_decide_eq_false hd0;omega
 have p0:0<=d':=by omega
 have p1:d'<(n:Int):=by omega
 have p2:d'<=4:=by omega
 have e0:AV d.toNat m=AV (k+1) m:=by rw[hk]
 cases v3:decide (nxV 12 m<3) with
 |true=>
  have hr:AV d.toNat m=nuT (nxM m):=by rw[e0];simp only[AV];rw[if_pos v3]
  simp only[seval,go_sem,hd0,v3]
  try simp only[A2,A3]
  try exact KZ2
 |false=>
 cases v6:decide (nxV 12 m<6) with
 |true=>
  have hr:AV d.toNat m=B7 (nxM m):=by rw[e0];simp only[AV];rw[if_neg (by rw[v3];decide),if_pos v6]
  simp only[seval,go_sem,hd0,v3,v6]
  try simp only[A2,A3]
  try exact KZ2
 |false=>
 cases w6:(nxV 12 m==6) with
 |true=>
  have hr:AV d.toNat m=([45]++(B7 (nxM m)).1,(B7 (nxM m)).2):=by rw[e0];simp only[AV];rw[if_neg (by rw[v3];decide),if_neg (by rw[v6];decide),if_pos w6]
  have l1:=Do (nxM m)
  simp only[seval,go_sem,hd0,v3,v6,w6]
  try simp only[A2,A3]
  repeat' first|exact ck|with_reducible apply And.intro|intro _
  all_goals first|exact okM.mono o0 (by omega)|exact okM.mono o1 (by omega)|(simp only[jL3]at *;omega)|exact KZ|(refine A1 [] ?_;simp only[seval,go_sem,bne,NF,NG,hr])
 |false=>
 have a2:Ax (nxM m) (AV k (nxM m)).2 (4*(d'+1)):=by have h:=EU k (m:=nxM m) (by rw[hdk];exact okM.mono o1 (by omega));rw[hdk]at h;exact h
 have o2:okM (AV k (nxM m)).2 2:=a2.ok (okM.mono o1 (by omega))
 have a3:=C6 (okM.mono o2 (by omega):okM _ 1)
 have o3:okM (nxM (AV k (nxM m)).2) 1:=a3.ok (okM.mono o2 (by omega))
 have l2:=DF k (nxM m)
 have hkb:k<=4:=by omega
 cases w11:(nxV 12 m==11) with
 |true=>
  have hr:AV d.toNat m=(([40]++(AV k (nxM m)).1)++[41,32,45,32]++(B7 (AV k (nxM m)).2).1,(B7 (AV k (nxM m)).2).2):=by rw[e0];simp only[AV];rw[if_neg (by rw[v3];decide),if_neg (by rw[v6];decide),if_neg (by rw[w6];decide),if_pos w11]
  have l3:=Do (AV k (nxM m)).2
  simp only[seval,go_sem,hd0,v3,v6,w6,w11,hdw,hk']
  try simp only[A2,A3]
  repeat' first|exact ck|with_reducible apply And.intro|intro _
  all_goals first|exact okM.mono o0 (by omega)|exact okM.mono o1 (by omega)|exact okM.mono o2 (by omega)|exact p0|exact p1|exact p2|(simp only[jL3]at *;omega)|exact KZ|(refine A1 [] ?_;simp only[seval,go_sem,bne,NF,NG,hr])
 |false=>
 have hr:AV d.toNat m=((((((AV k (nxM m)).1++[32])++opT.getD (nxV 5 (AV k (nxM m)).2).toNat [])++[32])++(B7 (nxM (AV k (nxM m)).2)).1),(B7 (nxM (AV k (nxM m)).2)).2):=by rw[e0];simp only[AV];rw[if_neg (by rw[v3];decide),if_neg (by rw[v6];decide),if_neg (by rw[w6];decide),if_neg (by rw[w11];decide)]
 have l3:=cP (nxV 5 (AV k (nxM m)).2).toNat
 have l4:=Do (nxM (AV k (nxM m)).2)
 have q5:=E0 (j:=5) o2 (by decide)
 simp only[seval,go_sem,hd0,v3,v6,w6,w11,hdw,hk']
 try simp only[A2,A3]
 repeat' first|exact ck|with_reducible apply And.intro|intro _
 all_goals first|exact okM.mono o0 (by omega)|exact okM.mono o1 (by omega)|exact okM.mono o2 (by omega)|exact okM.mono o3 (by omega)|exact p0|exact p1|exact p2|(simp only[jL3]at *;omega)|exact KZ|(refine A1 [] ?_;simp only[seval,go_sem,bne,NF,NG,hr])
theorem V4:∀n:Nat,Sp n
 |0=>by
  rintro ⟨m,d,_u⟩ w M I lab fz xs hc hA hl hx
  exact absurd hc.2.2.1 (by have:=hc.2.1;dsimp only at this ⊢;omega)
 |n+1=>sS n (V4 n)
end Go.Proofs.YtapedeoheilnnaaGreat
