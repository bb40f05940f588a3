/- The maker's small functions. No conditions but those in each statement. -/
import Derived.Test.YtlaggppdgoknjaaGreatDoorMi1
set_option linter.unusedVariables false
set_option linter.unusedSimpArgs false
namespace Go.Proofs.YtlaggppdgoknjaaGreatDoor
open Go Go.Sy Go.RowKit
structure Mk where
 b:List Int
 i:Int
 n:Int
theorem mk_eta (p:Mk):(⟨p.b,p.i,p.n⟩:Mk)=p:=rfl
def byD (x:Int):List D:=[.v (.int .u8 x)]
def zBy:List D:=[.v (.int .u8 0)]
def Mk.c (p:Mk):List C:=[.d (.sl zBy (p.b.map byD)),.v (.int .i64 p.i),.v (.int .i64 p.n)]
abbrev zMk:List C:=[.v (.int .i64 0),.v (.int .i64 0),.v (.int .i64 0)]
theorem by_inj (a b:Int) (h:byD a=byD b):a=b:=by simpa [byD] using h
theorem mkc_inj (a b:Mk) (h:a.c=b.c):a=b:=by
 obtain⟨l,i,n⟩:=a
 obtain⟨l',i',n'⟩:=b
 simp only[Mk.c,List.cons.injEq,C.v.injEq,C.d.injEq,D.sl.injEq,Value.int.injEq,true_and,and_true]at h
 obtain⟨h1,rfl,rfl⟩:=h
 rw[map_inj by_inj h1]
theorem mkc_nm (p:Mk):∀c∈p.c,c.names=[]:=by
 intro c hc
 simp only[Mk.c,List.mem_cons,List.not_mem_nil,or_false]at hc
 rcases hc with rfl|rfl|rfl<;>rfl
noncomputable def mMk:RowM Mk:=rowMOf zMk Mk.c mkc_nm
theorem mMk_z:mMk.z=zMk:=rfl
theorem mMk_e:mMk.e=Mk.c:=rfl
theorem mMk_d (l:List Int) (i n:Int):mMk.d [.d (.sl [.v (.int .u8 0)] (l.map byD)),.v (.int .i64 i),.v (.int .i64 n)]=some ⟨l,i,n⟩:=rowMOf_d mkc_inj ⟨l,i,n⟩
theorem mem_mk (p:Mk):∀q,some q∈[some ((zMk,[p.c]):MV)]→∀r∈q.2,∀c∈r,c.names=[]:=by
 intro q hq r hr c hc
 simp only[List.mem_singleton,Option.some.injEq]at hq
 subst hq
 simp only[List.mem_singleton]at hr
 subst hr
 exact mkc_nm p c hc
theorem by_at (l:List Int) (i:Nat):(l.map byD).getD i [.v (.int .u8 0)]=byD (l.getD i 0):=by
 simp only[List.getD,List.getElem?_map]
 cases l[i]?<;>rfl
theorem tb_at (l:List (List UInt8)) (i:Nat):(l.map cS).getD i [.v (.string (bs []))]=cS (l.getD i []):=by
 simp only[List.getD,List.getElem?_map]
 cases l[i]?<;>rfl
def numT:List (List UInt8):=[[48],[49],[50],[51],[52],[49,48],[57,50,50,51,51,55,50,48,51,54,56,53,52,55,55,53,56,48,55],[55]]
theorem numT_at (i:Nat):([[.v (.string (bs [48]))],[.v (.string (bs [49]))],[.v (.string (bs [50]))],[.v (.string (bs [51]))],[.v (.string (bs [52]))],[.v (.string (bs [49,48]))],[.v (.string (bs [57,50,50,51,51,55,50,48,51,54,56,53,52,55,55,53,56,48,55]))],[.v (.string (bs [55]))]]:List (List C)).getD i [.v (.string (bs []))]=[.v (.string (bs (numT.getD i [])))]:=tb_at numT i
theorem numT_len (i:Nat):(numT.getD i []).length≤19:=by
 simp only[List.getD]
 cases h:numT[i]? with
 |none=>exact Nat.zero_le _
 |some x=>exact(by decide:∀x∈numT,x.length≤19) x (List.mem_of_getElem? h)
def ivT:List (List UInt8):=[[97],[98],[120],[99],[100],[97]]
theorem ivT_at (i:Nat):([[.v (.string (bs [97]))],[.v (.string (bs [98]))],[.v (.string (bs [120]))],[.v (.string (bs [99]))],[.v (.string (bs [100]))],[.v (.string (bs [97]))]]:List (List C)).getD i [.v (.string (bs []))]=[.v (.string (bs (ivT.getD i [])))]:=tb_at ivT i
theorem ivT_len (i:Nat):(ivT.getD i []).length≤1:=by
 simp only[List.getD]
 cases h:ivT[i]? with
 |none=>exact Nat.zero_le _
 |some x=>exact(by decide:∀x∈ivT,x.length≤1) x (List.mem_of_getElem? h)
def opT:List (List UInt8):=[[43],[45],[42],[47],[37]]
theorem opT_at (i:Nat):([[.v (.string (bs [43]))],[.v (.string (bs [45]))],[.v (.string (bs [42]))],[.v (.string (bs [47]))],[.v (.string (bs [37]))]]:List (List C)).getD i [.v (.string (bs []))]=[.v (.string (bs (opT.getD i [])))]:=tb_at opT i
theorem opT_len (i:Nat):(opT.getD i []).length≤1:=by
 simp only[List.getD]
 cases h:opT[i]? with
 |none=>exact Nat.zero_le _
 |some x=>exact(by decide:∀x∈opT,x.length≤1) x (List.mem_of_getElem? h)
def cmT:List (List UInt8):=[[60],[60,61],[62],[62,61],[61,61],[33,61]]
theorem cmT_at (i:Nat):([[.v (.string (bs [60]))],[.v (.string (bs [60,61]))],[.v (.string (bs [62]))],[.v (.string (bs [62,61]))],[.v (.string (bs [61,61]))],[.v (.string (bs [33,61]))]]:List (List C)).getD i [.v (.string (bs []))]=[.v (.string (bs (cmT.getD i [])))]:=tb_at cmT i
theorem cmT_len (i:Nat):(cmT.getD i []).length≤2:=by
 simp only[List.getD]
 cases h:cmT[i]? with
 |none=>exact Nat.zero_le _
 |some x=>exact(by decide:∀x∈cmT,x.length≤2) x (List.mem_of_getElem? h)
def cdT:List (List UInt8):=[[99],[100]]
theorem cdT_at (i:Nat):([[.v (.string (bs [99]))],[.v (.string (bs [100]))]]:List (List C)).getD i [.v (.string (bs []))]=[.v (.string (bs (cdT.getD i [])))]:=tb_at cdT i
theorem cdT_len (i:Nat):(cdT.getD i []).length≤1:=by
 simp only[List.getD]
 cases h:cdT[i]? with
 |none=>exact Nat.zero_le _
 |some x=>exact(by decide:∀x∈cdT,x.length≤1) x (List.mem_of_getElem? h)
def nqT:List (List UInt8):=[[110,117,108,108],[113]]
theorem nqT_at (i:Nat):([[.v (.string (bs [110,117,108,108]))],[.v (.string (bs [113]))]]:List (List C)).getD i [.v (.string (bs []))]=[.v (.string (bs (nqT.getD i [])))]:=tb_at nqT i
theorem nqT_len (i:Nat):(nqT.getD i []).length≤4:=by
 simp only[List.getD]
 cases h:nqT[i]? with
 |none=>exact Nat.zero_le _
 |some x=>exact(by decide:∀x∈nqT,x.length≤4) x (List.mem_of_getElem? h)
def tuT:List (List UInt8):=[[116],[117]]
theorem tuT_at (i:Nat):([[.v (.string (bs [116]))],[.v (.string (bs [117]))]]:List (List C)).getD i [.v (.string (bs []))]=[.v (.string (bs (tuT.getD i [])))]:=tb_at tuT i
theorem tuT_len (i:Nat):(tuT.getD i []).length≤1:=by
 simp only[List.getD]
 cases h:tuT[i]? with
 |none=>exact Nat.zero_le _
 |some x=>exact(by decide:∀x∈tuT,x.length≤1) x (List.mem_of_getElem? h)
def eqT:List (List UInt8):=[[32,61,61,32,110,117,108,108],[32,33,61,32,110,117,108,108]]
theorem eqT_at (i:Nat):([[.v (.string (bs [32,61,61,32,110,117,108,108]))],[.v (.string (bs [32,33,61,32,110,117,108,108]))]]:List (List C)).getD i [.v (.string (bs []))]=[.v (.string (bs (eqT.getD i [])))]:=tb_at eqT i
theorem eqT_len (i:Nat):(eqT.getD i []).length≤8:=by
 simp only[List.getD]
 cases h:eqT[i]? with
 |none=>exact Nat.zero_le _
 |some x=>exact(by decide:∀x∈eqT,x.length≤8) x (List.mem_of_getElem? h)
def hdT:List (List UInt8):=[[102,110,32,102,40,120,41],[102,110,32,103,40,120,44,32,121,41],[102,110,32,104,40,42,112,41],[102,110,32,107,40,120,44,32,42,112,41]]
theorem hdT_at (i:Nat):([[.v (.string (bs [102,110,32,102,40,120,41]))],[.v (.string (bs [102,110,32,103,40,120,44,32,121,41]))],[.v (.string (bs [102,110,32,104,40,42,112,41]))],[.v (.string (bs [102,110,32,107,40,120,44,32,42,112,41]))]]:List (List C)).getD i [.v (.string (bs []))]=[.v (.string (bs (hdT.getD i [])))]:=tb_at hdT i
theorem hdT_len (i:Nat):(hdT.getD i []).length≤11:=by
 simp only[List.getD]
 cases h:hdT[i]? with
 |none=>exact Nat.zero_le _
 |some x=>exact(by decide:∀x∈hdT,x.length≤11) x (List.mem_of_getElem? h)
def nmT:List (List UInt8):=[[102],[103],[104],[107]]
theorem nmT_at (i:Nat):([[.v (.string (bs [102]))],[.v (.string (bs [103]))],[.v (.string (bs [104]))],[.v (.string (bs [107]))]]:List (List C)).getD i [.v (.string (bs []))]=[.v (.string (bs (nmT.getD i [])))]:=tb_at nmT i
theorem nmT_len (i:Nat):(nmT.getD i []).length≤1:=by
 simp only[List.getD]
 cases h:nmT[i]? with
 |none=>exact Nat.zero_le _
 |some x=>exact(by decide:∀x∈nmT,x.length≤1) x (List.mem_of_getElem? h)
def okM (m:Mk) (c:Int):Prop:=0≤m.i∧m.i+c≤4294967296∧∀x∈m.b,0≤x∧x<256
def bytM (m:Mk):Int:=if decide (m.i<(m.b.length:Int))=true then w64i (m.b.getD m.i.toNat 0) else 0
def nxM (m:Mk):Mk:={ m with i:=w64i (m.i+1) }
def nxV (j:Int) (m:Mk):Int:=(bytM m).tmod j
structure Ax (m q:Mk) (c:Int):Prop where
 lo:m.i≤q.i
 hi:q.i≤m.i+c
 b:q.b=m.b
theorem Ax.refl (m:Mk):Ax m m 0:=⟨Int.le_refl _,by omega,rfl⟩
theorem Ax.trans {m q r:Mk} {c d:Int} (h:Ax m q c) (h':Ax q r d):Ax m r (c+d):=⟨Int.le_trans h.lo h'.lo,by have:=h.hi;have:=h'.hi;omega,h'.b.trans h.b⟩
theorem Ax.mono {m q:Mk} {c d:Int} (h:Ax m q c) (hd:c≤d):Ax m q d:=⟨h.lo,by have:=h.hi;omega,h.b⟩
theorem Ax.ok {m q:Mk} {c d:Int} (h:Ax m q c) (ho:okM m (c+d)):okM q d:=⟨by have:=h.lo;have:=ho.1;omega,by have:=h.hi;have:=ho.2.1;omega,by rw[h.b];exact ho.2.2⟩
theorem okM.mono {m:Mk} {c d:Int} (h:okM m c) (hd:d≤c):okM m d:=⟨h.1,by have:=h.2.1;omega,h.2.2⟩
theorem nx_ax {m:Mk} (h:okM m 1):Ax m (nxM m) 1:=by
 have h1:=h.1;have h2:=h.2.1
 have e:(nxM m).i=m.i+1:=wrap_i64 (by omega) (by omega)
 exact⟨by omega,by omega,rfl⟩
theorem byt_in {m:Mk} {c:Int} (h:okM m c):0≤bytM m:=by
 unfold bytM
 split
 ·have h3:0≤m.b.getD m.i.toNat 0∧m.b.getD m.i.toNat 0<256:=by
   simp only[List.getD]
   cases e:m.b[m.i.toNat]? with
   |none=>simp
   |some x=>exact h.2.2 x (List.mem_of_getElem? e)
  have e:w64i (m.b.getD m.i.toNat 0)=m.b.getD m.i.toNat 0:=wrap_i64 (by omega) (by omega)
  rw[e];exact h3.1
 ·exact Int.le_refl _
theorem nxV_in {m:Mk} {c j:Int} (h:okM m c) (hj:0<j):0≤nxV j m∧nxV j m<j:=by
 have h1:=byt_in h
 exact⟨Int.tmod_nonneg j h1,Int.tmod_lt_of_pos _ hj⟩
abbrev yc_next (m:Mk) (j:Int):Prop:=okM m 1∧j≠0
abbrev yr_next (m:Mk) (j:Int):SV:=.one (.v (.int .i64 (nxV j m)))
abbrev ym_next (m:Mk) (j:Int):List (Option MV):=[some (zMk,[(nxM m).c])]
noncomputable abbrev ya_next:ArgM ((Mk)×(Int)×Unit):=(amP (mMk) (amD (cInt .i64) am0))
abbrev yq_next:Prop:=CallsM Tryz.prog 14 ((ya_next).args 0) (ya_next).mem (fun p:(Mk)×(Int)×Unit=>yc_next p.1 p.2.1) (fun p:(Mk)×(Int)×Unit=>yr_next p.1 p.2.1) (fun p:(Mk)×(Int)×Unit=>ym_next p.1 p.2.1)
theorem yl_next:∀p,(fun p:(Mk)×(Int)×Unit=>yc_next p.1 p.2.1) p→lenM ((ya_next).mem p).length ((fun p:(Mk)×(Int)×Unit=>ym_next p.1 p.2.1) p)=true:=by intro p _;rfl
theorem yo_next:∀p,(fun p:(Mk)×(Int)×Unit=>yc_next p.1 p.2.1) p→outV ((fun p:(Mk)×(Int)×Unit=>ym_next p.1 p.2.1) p).length ((fun p:(Mk)×(Int)×Unit=>yr_next p.1 p.2.1) p)=true:=by intro p _;first|rfl|exact ex_out _ _|exact cd_out _ _|(simp[outV,outC,ex_out,cd_out];done)
theorem yn_next:∀p,(fun p:(Mk)×(Int)×Unit=>yc_next p.1 p.2.1) p→∀q,some q∈(fun p:(Mk)×(Int)×Unit=>ym_next p.1 p.2.1) p→∀r∈q.2,∀c∈r,c.names=[]:=by intro p _;exact mem_mk _
attribute [local go_sem] Mk.c byD by_at cdT_at cmT_at eqT_at hdT_at ivT_at mMk_d mMk_e mMk_z mk_eta nmT_at nqT_at numT_at opT_at tuT_at zBy
theorem y_next:yq_next:=by
 rintro ⟨m,j,_u⟩ w M I lab fz xs hc hA hl hx
 refine calls_toML Tryz.func14 rfl ((ya_next).mem ⟨m,j,_u⟩) w M I lab fz [] [] ((ya_next).args 0 ⟨m,j,_u⟩) ((fun p:(Mk)×(Int)×Unit=>ym_next p.1 p.2.1) ⟨m,j,_u⟩) ((fun p:(Mk)×(Int)×Unit=>yr_next p.1 p.2.1) ⟨m,j,_u⟩) xs hA hl hx (fun v hv k hk=>by have:=(ya_next).an 0 ⟨m,j,_u⟩ v hv k hk;omega) (Nat.le_of_ble_eq_true rfl) (Nat.le_of_ble_eq_true rfl) ?_
 clear hx hl hA xs
 simp only[Tryz.f14]
 obtain⟨h0,hk⟩:=hc
 dsimp only at h0 hk
 have h1:=h0.1
 cases hd:decide (m.i<(m.b.length:Int)) with
 |true=>
  have hd2:=of_decide_eq_true hd
  have hr:bytM m=w64i (m.b.getD m.i.toNat 0):=by simp only[bytM];rw[if_pos hd]
  simp only[↓eB,seval,go_sem,hd]
  try simp only[impB,impN]
  repeat' first|exact ck|with_reducible apply And.intro|intro _
  all_goals first|exact h1|(rename_i h;first|exact oI h|exact nah h)|(rename_i _ h _ g;exact sL h g)|decide|omega|(refine ret_with [] ?_;simp only[↓eB,seval,go_sem,bne,yr_next,ym_next,nxV,nxM,hr])
 |false=>
  have hr:bytM m=0:=by simp only[bytM];rw[if_neg (by rw[hd];decide)]
  simp only[↓eB,seval,go_sem,hd]
  try simp only[impB,impN]
  repeat' first|exact ck|with_reducible apply And.intro|intro _
  all_goals first|exact h1|(rename_i h;first|exact oI h|exact nah h)|(rename_i _ h _ g;exact sL h g)|decide|omega|(refine ret_with [] ?_;simp only[↓eB,seval,go_sem,bne,yr_next,ym_next,nxV,nxM,hr])
noncomputable def yp_next {X:Ctx} {w0:World}:Sy.Spec Tryz.prog X w0:=specM 14 Tryz.call14 (ya_next) (fun p:(Mk)×(Int)×Unit=>yc_next p.1 p.2.1) (fun p:(Mk)×(Int)×Unit=>yr_next p.1 p.2.1) (fun p:(Mk)×(Int)×Unit=>ym_next p.1 p.2.1) yl_next yo_next yn_next y_next
abbrev T:=List UInt8×Mk
def nuT (m:Mk):T:=(numT.getD (nxV 8 m).toNat [],nxM m)
def ivT' (m:Mk):T:=(ivT.getD (nxV 6 m).toNat [],nxM m)
def pvT (s:Int) (m:Mk):T:=if decide (2≤s.tmod 4)=true then (if (nxV 2 m==0)=true then ([112],nxM m) else ([113],nxM m)) else ([113],m)
abbrev yc_num (m:Mk):Prop:=okM m 1
abbrev yr_num (m:Mk):SV:=.one (.v (.string (bs (nuT m).1)))
abbrev ym_num (m:Mk):List (Option MV):=[some (zMk,[(nuT m).2.c])]
noncomputable abbrev ya_num:ArgM ((Mk)×Unit):=(amP (mMk) am0)
abbrev yq_num:Prop:=CallsM Tryz.prog 37 ((ya_num).args 0) (ya_num).mem (fun p:(Mk)×Unit=>yc_num p.1) (fun p:(Mk)×Unit=>yr_num p.1) (fun p:(Mk)×Unit=>ym_num p.1)
theorem yl_num:∀p,(fun p:(Mk)×Unit=>yc_num p.1) p→lenM ((ya_num).mem p).length ((fun p:(Mk)×Unit=>ym_num p.1) p)=true:=by intro p _;rfl
theorem yo_num:∀p,(fun p:(Mk)×Unit=>yc_num p.1) p→outV ((fun p:(Mk)×Unit=>ym_num p.1) p).length ((fun p:(Mk)×Unit=>yr_num p.1) p)=true:=by intro p _;first|rfl|exact ex_out _ _|exact cd_out _ _|(simp[outV,outC,ex_out,cd_out];done)
theorem yn_num:∀p,(fun p:(Mk)×Unit=>yc_num p.1) p→∀q,some q∈(fun p:(Mk)×Unit=>ym_num p.1) p→∀r∈q.2,∀c∈r,c.names=[]:=by intro p _;exact mem_mk _
theorem y_num:yq_num:=by
 rintro ⟨m,_u⟩ w M I lab fz xs hc hA hl hx
 refine calls_toML Tryz.func37 rfl ((ya_num).mem ⟨m,_u⟩) w M I lab fz [yp_next] [] ((ya_num).args 0 ⟨m,_u⟩) ((fun p:(Mk)×Unit=>ym_num p.1) ⟨m,_u⟩) ((fun p:(Mk)×Unit=>yr_num p.1) ⟨m,_u⟩) xs hA hl hx (fun v hv k hk=>by have:=(ya_num).an 0 ⟨m,_u⟩ v hv k hk;omega) (Nat.le_of_ble_eq_true rfl) (Nat.le_of_ble_eq_true rfl) ?_
 clear hx hl hA xs
 simp only[Tryz.f37]
 have h0:okM m 1:=hc
 have h1:=nxV_in (j:=8) h0 (by decide)
 simp only[↓eB,seval,go_sem,yp_next]
 try simp only[impB,impN]
 repeat' first|exact ck|with_reducible apply And.intro|intro _
 all_goals first|exact h0|exact h1|(rename_i h;first|exact oI h|exact nah h)|(rename_i _ h _ g;exact sL h g)|decide|omega|(refine ret_with [] ?_;simp only[↓eB,seval,go_sem,bne,yr_num,ym_num,nuT])
noncomputable def yp_num {X:Ctx} {w0:World}:Sy.Spec Tryz.prog X w0:=specM 37 Tryz.call37 (ya_num) (fun p:(Mk)×Unit=>yc_num p.1) (fun p:(Mk)×Unit=>yr_num p.1) (fun p:(Mk)×Unit=>ym_num p.1) yl_num yo_num yn_num y_num
abbrev yc_ivar (m:Mk):Prop:=okM m 1
abbrev yr_ivar (m:Mk):SV:=.one (.v (.string (bs (ivT' m).1)))
abbrev ym_ivar (m:Mk):List (Option MV):=[some (zMk,[(ivT' m).2.c])]
noncomputable abbrev ya_ivar:ArgM ((Mk)×Unit):=(amP (mMk) am0)
abbrev yq_ivar:Prop:=CallsM Tryz.prog 16 ((ya_ivar).args 0) (ya_ivar).mem (fun p:(Mk)×Unit=>yc_ivar p.1) (fun p:(Mk)×Unit=>yr_ivar p.1) (fun p:(Mk)×Unit=>ym_ivar p.1)
theorem yl_ivar:∀p,(fun p:(Mk)×Unit=>yc_ivar p.1) p→lenM ((ya_ivar).mem p).length ((fun p:(Mk)×Unit=>ym_ivar p.1) p)=true:=by intro p _;rfl
theorem yo_ivar:∀p,(fun p:(Mk)×Unit=>yc_ivar p.1) p→outV ((fun p:(Mk)×Unit=>ym_ivar p.1) p).length ((fun p:(Mk)×Unit=>yr_ivar p.1) p)=true:=by intro p _;first|rfl|exact ex_out _ _|exact cd_out _ _|(simp[outV,outC,ex_out,cd_out];done)
theorem yn_ivar:∀p,(fun p:(Mk)×Unit=>yc_ivar p.1) p→∀q,some q∈(fun p:(Mk)×Unit=>ym_ivar p.1) p→∀r∈q.2,∀c∈r,c.names=[]:=by intro p _;exact mem_mk _
theorem y_ivar:yq_ivar:=by
 rintro ⟨m,_u⟩ w M I lab fz xs hc hA hl hx
 refine calls_toML Tryz.func16 rfl ((ya_ivar).mem ⟨m,_u⟩) w M I lab fz [yp_next] [] ((ya_ivar).args 0 ⟨m,_u⟩) ((fun p:(Mk)×Unit=>ym_ivar p.1) ⟨m,_u⟩) ((fun p:(Mk)×Unit=>yr_ivar p.1) ⟨m,_u⟩) xs hA hl hx (fun v hv k hk=>by have:=(ya_ivar).an 0 ⟨m,_u⟩ v hv k hk;omega) (Nat.le_of_ble_eq_true rfl) (Nat.le_of_ble_eq_true rfl) ?_
 clear hx hl hA xs
 simp only[Tryz.f16]
 have h0:okM m 1:=hc
 have h1:=nxV_in (j:=6) h0 (by decide)
 simp only[↓eB,seval,go_sem,yp_next]
 try simp only[impB,impN]
 repeat' first|exact ck|with_reducible apply And.intro|intro _
 all_goals first|exact h0|exact h1|(rename_i h;first|exact oI h|exact nah h)|(rename_i _ h _ g;exact sL h g)|decide|omega|(refine ret_with [] ?_;simp only[↓eB,seval,go_sem,bne,yr_ivar,ym_ivar,ivT'])
noncomputable def yp_ivar {X:Ctx} {w0:World}:Sy.Spec Tryz.prog X w0:=specM 16 Tryz.call16 (ya_ivar) (fun p:(Mk)×Unit=>yc_ivar p.1) (fun p:(Mk)×Unit=>yr_ivar p.1) (fun p:(Mk)×Unit=>ym_ivar p.1) yl_ivar yo_ivar yn_ivar y_ivar
abbrev yc_pvar (m:Mk) (s:Int):Prop:=okM m 1
abbrev yr_pvar (m:Mk) (s:Int):SV:=.one (.v (.string (bs (pvT s m).1)))
abbrev ym_pvar (m:Mk) (s:Int):List (Option MV):=[some (zMk,[(pvT s m).2.c])]
noncomputable abbrev ya_pvar:ArgM ((Mk)×(Int)×Unit):=(amP (mMk) (amD (cInt .i64) am0))
abbrev yq_pvar:Prop:=CallsM Tryz.prog 39 ((ya_pvar).args 0) (ya_pvar).mem (fun p:(Mk)×(Int)×Unit=>yc_pvar p.1 p.2.1) (fun p:(Mk)×(Int)×Unit=>yr_pvar p.1 p.2.1) (fun p:(Mk)×(Int)×Unit=>ym_pvar p.1 p.2.1)
theorem yl_pvar:∀p,(fun p:(Mk)×(Int)×Unit=>yc_pvar p.1 p.2.1) p→lenM ((ya_pvar).mem p).length ((fun p:(Mk)×(Int)×Unit=>ym_pvar p.1 p.2.1) p)=true:=by intro p _;rfl
theorem yo_pvar:∀p,(fun p:(Mk)×(Int)×Unit=>yc_pvar p.1 p.2.1) p→outV ((fun p:(Mk)×(Int)×Unit=>ym_pvar p.1 p.2.1) p).length ((fun p:(Mk)×(Int)×Unit=>yr_pvar p.1 p.2.1) p)=true:=by intro p _;first|rfl|exact ex_out _ _|exact cd_out _ _|(simp[outV,outC,ex_out,cd_out];done)
theorem yn_pvar:∀p,(fun p:(Mk)×(Int)×Unit=>yc_pvar p.1 p.2.1) p→∀q,some q∈(fun p:(Mk)×(Int)×Unit=>ym_pvar p.1 p.2.1) p→∀r∈q.2,∀c∈r,c.names=[]:=by intro p _;exact mem_mk _
theorem y_pvar:yq_pvar:=by
 rintro ⟨m,s,_u⟩ w M I lab fz xs hc hA hl hx
 refine calls_toML Tryz.func39 rfl ((ya_pvar).mem ⟨m,s,_u⟩) w M I lab fz [yp_next] [] ((ya_pvar).args 0 ⟨m,s,_u⟩) ((fun p:(Mk)×(Int)×Unit=>ym_pvar p.1 p.2.1) ⟨m,s,_u⟩) ((fun p:(Mk)×(Int)×Unit=>yr_pvar p.1 p.2.1) ⟨m,s,_u⟩) xs hA hl hx (fun v hv k hk=>by have:=(ya_pvar).an 0 ⟨m,s,_u⟩ v hv k hk;omega) (Nat.le_of_ble_eq_true rfl) (Nat.le_of_ble_eq_true rfl) ?_
 clear hx hl hA xs
 simp only[Tryz.f39]
 have h0:okM m 1:=hc
 have h1:=nxV_in (j:=2) h0 (by decide)
 cases h2:decide (2≤s.tmod 4) with
 |true=>
  cases h3:(nxV 2 m==0) with
  |true=>
   have hr:pvT s m=([112],nxM m):=by simp only[pvT];rw[if_pos h2,if_pos h3]
   simp only[↓eB,seval,go_sem,yp_next,h2,h3]
   try simp only[impB,impN]
   repeat' first|exact ck|with_reducible apply And.intro|intro _
   all_goals first|exact h0|exact h1|(rename_i h;first|exact oI h|exact nah h)|(rename_i _ h _ g;exact sL h g)|decide|omega|(refine ret_with [] ?_;simp only[↓eB,seval,go_sem,bne,yr_pvar,ym_pvar,hr])
  |false=>
   have hr:pvT s m=([113],nxM m):=by simp only[pvT];rw[if_pos h2,if_neg (by rw[h3];decide)]
   simp only[↓eB,seval,go_sem,yp_next,h2,h3]
   try simp only[impB,impN]
   repeat' first|exact ck|with_reducible apply And.intro|intro _
   all_goals first|exact h0|exact h1|(rename_i h;first|exact oI h|exact nah h)|(rename_i _ h _ g;exact sL h g)|decide|omega|(refine ret_with [] ?_;simp only[↓eB,seval,go_sem,bne,yr_pvar,ym_pvar,hr])
 |false=>
  have hr:pvT s m=([113],m):=by simp only[pvT];rw[if_neg (by rw[h2];decide)]
  simp only[↓eB,seval,go_sem,yp_next,h2]
  try simp only[impB,impN]
  repeat' first|exact ck|with_reducible apply And.intro|intro _
  all_goals first|exact h0|exact h1|(rename_i h;first|exact oI h|exact nah h)|(rename_i _ h _ g;exact sL h g)|decide|omega|(refine ret_with [] ?_;simp only[↓eB,seval,go_sem,bne,yr_pvar,ym_pvar,hr])
noncomputable def yp_pvar {X:Ctx} {w0:World}:Sy.Spec Tryz.prog X w0:=specM 39 Tryz.call39 (ya_pvar) (fun p:(Mk)×(Int)×Unit=>yc_pvar p.1 p.2.1) (fun p:(Mk)×(Int)×Unit=>yr_pvar p.1 p.2.1) (fun p:(Mk)×(Int)×Unit=>ym_pvar p.1 p.2.1) yl_pvar yo_pvar yn_pvar y_pvar
end Go.Proofs.YtlaggppdgoknjaaGreatDoor
