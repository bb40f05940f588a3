/- The program's tries: one of them, walked. Conditions: lengths; each list has one. -/
import Derived.Test.YtjnnmindcbgjhabWj
set_option linter.unusedVariables false
set_option linter.unusedSimpArgs false
namespace Go.Proofs.Ytjnnmindcbgjhab
open Go Go.Sy Go.RowKit
def pkR:List (List Va)→Int→List Va×Int
 |[],n=>([],n)
 |c::r,n=>(c.getD ((pkR r n).2.tmod (c.length:Int)).toNat va0::(pkR r n).1,(pkR r n).2.tdiv (c.length:Int))
def pkF (l:List (List Va)) (n:Int):List Va:=(pkR l n).1
theorem pkR_rg:∀(l:List (List Va)) (n:Int),(∀x∈l,0<x.length)→0≤n→0≤(pkR l n).2∧(pkR l n).2≤n∧(pkR l n).1.length=l.length
 |[],n,_,h=>⟨h,Int.le_refl _,rfl⟩
 |c::r,n,h,h0=>by
  obtain⟨h1,h2,h3⟩:=pkR_rg r n (fun x hx=>h x (List.mem_cons_of_mem _ hx)) h0
  have hc:=h c (List.mem_cons_self ..)
  refine⟨?_,?_,?_⟩
  ·show 0≤(pkR r n).2.tdiv _
   rw[Int.tdiv_eq_ediv_of_nonneg h1];exact Int.ediv_nonneg h1 (by omega)
  ·show (pkR r n).2.tdiv _≤n
   rw[Int.tdiv_eq_ediv_of_nonneg h1]
   have:=Int.ediv_le_self (c.length:Int) h1
   omega
  ·show ((pkR r n).1.length+1)=_
   rw[h3];rfl
theorem vaE_at {l:List Va} {i:Nat} (h:i<l.length) (z:List D):(l.map Va.r).getD i z=(l.getD i va0).r:=by simp[List.getD,h]
theorem rp_set {k:Nat} {z:List C} {T:List (List C)} {r:List C}:(List.replicate (k+1) z++T).set k r=List.replicate k z++r::T:=by
 rw[List.replicate_succ',List.append_assoc,List.set_append_right _ _ (by simp),List.length_replicate,Nat.sub_self];rfl
theorem rp_get {k:Nat} {z d:List C} {T:List (List C)}:(List.replicate (k+1) z++T).getD k d=z:=by
 rw[List.getD_eq_getElem?_getD,List.getElem?_append_left (by simp)];simp
theorem rp_cl (k:Nat):List.flatMap (fun r=>List.flatMap C.names r) (List.replicate k [C.v (.bool false),C.v (.int .i64 0),C.v (.string (bs []))])=[]:=List.flatMap_eq_nil_iff.2 fun p hp=>by
 rw[List.eq_of_mem_replicate hp];rfl
theorem rp_mv (k a b:Nat):(List.replicate k [C.v (.bool false),C.v (.int .i64 0),C.v (.string (bs []))]).map (fun r=>r.map (mvC a b))=List.replicate k [C.v (.bool false),C.v (.int .i64 0),C.v (.string (bs []))]:=by rw[List.map_replicate];rfl
abbrev yc_pick (l:List (List Va)) (n:Int):Prop:=l.length≤5000∧(∀x∈l,0<x.length∧x.length≤1000000000)∧0≤n∧n≤1000000
abbrev yr_pick (l:List (List Va)) (n:Int):SV:=.one (.d (.sl zVaD ((pkF l n).map Va.r)))
noncomputable abbrev ya_pick:ArgC ((List (List Va))×(Int)×Unit):=(acS (cCh) (acS (cInt .i64) ac0))
abbrev yq_pick:Prop:=CallsY Try.prog 15 ya_pick (fun p:(List (List Va))×(Int)×Unit=>yc_pick p.1 p.2.1) (fun p:(List (List Va))×(Int)×Unit=>yr_pick p.1 p.2.1)
theorem yn_pick:∀p:(List (List Va))×(Int)×Unit,((fun p:(List (List Va))×(Int)×Unit=>yr_pick p.1 p.2.1) p).names=[]:=by intro p;rfl
attribute [local go_sem] Va.c Va.r cCh_d cCh_e va_dss va_mv va_nms
set_option maxRecDepth 20000 in set_option maxHeartbeats 16000000 in
theorem y_pick:yq_pick:=by
 rintro ⟨l,n,_u⟩ w fz xs hc hfz hl hx
 refine calls_toL Try.func15 rfl w fz [] [] ya_pick (fun p:(List (List Va))×(Int)×Unit=>yr_pick p.1 p.2.1) _ xs hfz hl hx (Nat.le_of_ble_eq_true rfl) ?_
 clear hx hl hfz xs
 simp only[Try.f15]
 obtain⟨h1,h2,h3,h4⟩:=hc
 dsimp only at h1 h2 h3 h4
 have w0:IntKind.i64.wrap ((l.length:Int)-1)=(l.length:Int)-1:=wrap_i64 (by omega) (by omega)
 simp only[↓eB,seval,go_sem,w0]
 refine⟨⟨(by omega),(by omega)⟩,?_⟩
 refine loop_ok (Y:=Nat) (fun kk=>kk≤l.length)
  (fun kk=>⟨[(0,true,.one (.d (.sl zVsD (l.map vsD1)))),(1,true,.one (.v (.int .i64 (pkR (l.drop kk) n).2))),(5,true,.one (.s 1000)),(6,true,.one (.v (.int .i64 ((kk:Int)-1))))],
   [(1000,.vec 0 zVac (List.replicate kk [C.v (.bool false),C.v (.int .i64 0),C.v (.string (bs []))]++(pkR (l.drop kk) n).1.map Va.c))]⟩)
  (fun kk=>kk) l.length (Nat.le_refl _) ?_ ?_
 ·refine to_with [.mv 9 1000] ?_;simp only[↓eB,seval,go_sem,zVac,List.drop_length,pkR,rp_cl,rp_mv]
 ·rintro kk hk
  refine vc_ok [] [] _ _ _ ?_
  cases kk with
  |zero=>
   have e0:decide ((0:Int)≤((0:Nat):Int)-1)=false:=by decide
   simp only[↓eB,seval,go_sem,e0,List.replicate_zero]
   refine ret_with [.fz 1000] ?_;simp only[↓eB,seval,go_sem,bne,yr_pick,pkF,zVac]
  |succ k=>
   have e1:((k+1:Nat):Int)-1=(k:Int):=by omega
   have e2:decide ((0:Int)≤(k:Int))=true:=by simp
   have w4:IntKind.i64.wrap ((k:Int)-1)=(k:Int)-1:=wrap_i64 (by omega) (by omega)
   have hkl:(k:Int)<(l.length:Int):=by omega
   have hq0:l[k]?=some (l.getD k []):=by rw[List.getD,List.getElem?_eq_getElem hk];rfl
   generalize l.getD k []=x at hq0
   have hz:=vsA_at hq0
   obtain⟨hx0,hx1⟩:=h2 x (List.mem_of_getElem? hq0)
   obtain⟨r1,r2,r3⟩:=pkR_rg (l.drop (k+1)) n (fun y hy=>(h2 y (List.mem_of_mem_drop hy)).1) h3
   have hd:pkR (l.drop k) n=(x.getD ((pkR (l.drop (k+1)) n).2.tmod (x.length:Int)).toNat va0::(pkR (l.drop (k+1)) n).1,(pkR (l.drop (k+1)) n).2.tdiv (x.length:Int)):=by rw[drop_get hq0];rfl
   generalize hT:(pkR (l.drop (k+1)) n).1=T at*
   generalize hM:(pkR (l.drop (k+1)) n).2=M at*
   have m1:0≤M.tmod (x.length:Int):=by rw[Int.tmod_eq_emod_of_nonneg r1];exact Int.emod_nonneg _ (by omega)
   have m2:M.tmod (x.length:Int)<(x.length:Int):=by rw[Int.tmod_eq_emod_of_nonneg r1];exact Int.emod_lt_of_pos _ (by omega)
   have m3:(M.tmod (x.length:Int)).toNat<x.length:=by omega
   have hvz:=vaE_at m3
   have d1:IntKind.i64.wrap (M.tdiv (x.length:Int))=M.tdiv (x.length:Int):=by
    rw[Int.tdiv_eq_ediv_of_nonneg r1]
    have:=Int.ediv_le_self (x.length:Int) r1
    have:=Int.ediv_nonneg r1 (show (0:Int)≤(x.length:Int) by omega)
    exact wrap_i64 (by omega) (by omega)
   have hlen:k<(List.replicate (k+1) [C.v (.bool false),C.v (.int .i64 0),C.v (.string (bs []))]++T.map Va.c).length:=by simp;omega
   simp only[↓eB,seval,go_sem,e1,e2,w4,hz,hvz,d1,rp_set,rp_get]
   refine⟨⟨hkl,rfl⟩,⟨hkl,rfl⟩,(by omega),⟨m1,m2⟩,⟨(by omega),rfl⟩,⟨hlen,(by decide)⟩,chk_ok (by kernel_rfl),⟨hkl,rfl⟩,(by omega),k,Nat.le_of_lt hk,Nat.lt_succ_self k,?_⟩
   refine to_with [] ?_;simp only[↓eB,seval,go_sem,hd,rp_cl,rp_get,List.flatMap_append]
noncomputable def yp_pick {X:Ctx} {w0:World}:Sy.Spec Try.prog X w0:=specD 15 Try.call15 ya_pick (fun p:(List (List Va))×(Int)×Unit=>yc_pick p.1 p.2.1) (fun p:(List (List Va))×(Int)×Unit=>yr_pick p.1 p.2.1) yn_pick y_pick
end Go.Proofs.Ytjnnmindcbgjhab
namespace Go.Proofs.Ytjnnmindcbgjhab
open Go Go.Sy Go.RowKit
def cntF (P:Pg) (f:List UInt8) (l:List Int):Int:=if (fnd f P.fs).isSome=true then triF (canF P f l) else 0
theorem fnd_mem {f:List UInt8} {g:Fn}:∀{l:List Fn},fnd f l=some g→g∈l
 |x::r,h=>by
  simp only[fnd]at h
  split at h
  ·rw[Option.some.inj h];exact List.mem_cons_self ..
  ·exact List.mem_cons_of_mem _ (fnd_mem h)
theorem canF_len {P:Pg} {f:List UInt8} {l:List Int} (h:∀g∈P.fs,g.ps.length≤5000):(canF P f l).length≤5000:=by
 unfold canF
 cases hf:fnd f P.fs with
 |none=>exact Nat.zero_le _
 |some g=>dsimp only;rw[List.length_map];exact h g (fnd_mem hf)
theorem intsF_len (l:List Int):0<(intsF l).length∧(intsF l).length≤l.length+1:=by
 unfold intsF
 split
 ·exact⟨Nat.zero_lt_one,by simp⟩
 ·rename_i h
  rw[List.length_map]
  refine⟨?_,Nat.le_succ _⟩
  cases l with
  |nil=>exact absurd rfl h
  |cons a l=>exact Nat.succ_pos _
theorem canF_ne {P:Pg} {f:List UInt8} {l:List Int} (h1:P.g.c.length≤1000000) (h2:l.length≤1000000):∀x∈canF P f l,0<x.length∧x.length≤1000000000:=by
 intro x hx
 unfold canF at hx
 cases hf:fnd f P.fs with
 |none=>rw[hf]at hx;cases hx
 |some g=>
  rw[hf]at hx
  obtain⟨v,_,rfl⟩:=List.mem_map.1 hx
  unfold canV
  split
  ·unfold ptsF
   rw[List.length_cons,List.length_map];omega
  ·have:=intsF_len l;omega
theorem triL_rg:∀(l:List (List Va)) (n:Int),(∀x∈l,0<x.length∧x.length≤1000000000)→1≤n→n≤2000→1≤triL l n∧triL l n≤2000
 |[],n,_,h1,h2=>⟨h1,h2⟩
 |c::r,n,h,h1,h2=>by
  simp only[triL]
  split
  ·exact⟨by decide,by decide⟩
  ·rename_i hc
   have hl:(c.length:Int)<2000:=by simpa using hc
   obtain⟨h3,_⟩:=h c (List.mem_cons_self ..)
   have hm:1≤n*(c.length:Int):=by
    have:1*1≤n*(c.length:Int):=Int.mul_le_mul h1 (by omega) (by omega) (by omega)
    omega
   have hm2:n*(c.length:Int)≤2000*2000:=Int.mul_le_mul h2 (by omega) (by omega) (by omega)
   have hw:IntKind.i64.wrap (n*(c.length:Int))=n*(c.length:Int):=wrap_i64 (by omega) (by omega)
   rw[hw]
   refine triL_rg r _ (fun x hx=>h x (List.mem_cons_of_mem _ hx)) ?_ ?_<;>(unfold mn;split<;>omega)
theorem pkF_len (l:List (List Va)) (n:Int):(pkF l n).length=l.length:=by
 unfold pkF
 induction l with
 |nil=>rfl
 |cons c r ih=>show (pkR r n).1.length+1=_;rw[ih];rfl
def firG (g:Nat→Ms):Nat→Nat→Option Nat
 |0,_=>none
 |r+1,i=>if ((g i).e==1)=true then some i else firG g r (i+1)
def blS (P:Pg):Sta:=⟨blC P.g.c,blA P.g.a⟩
def firM (n:Nat) (P:Pg) (f:List UInt8) (fuel:Int) (l:List Int) (i:Nat):Ms:=clF n P f (pkF (canF P f l) (i:Int)) (blS P) fuel
def firF (n:Nat) (P:Pg) (f:List UInt8) (fuel:Int) (l:List Int):Option Nat:=if (fnd f P.fs).isSome=true then firG (firM n P f fuel l) (triF (canF P f l)).toNat 0 else none
def ms00:Ms:=⟨0,0,[],[],0,0,[],0,0⟩
def firA (n:Nat) (P:Pg) (f:List UInt8) (fuel:Int) (l:List Int):List Va×Ms×Bool:=match firF n P f fuel l with
 |some i=>(pkF (canF P f l) (i:Int),firM n P f fuel l i,true)
 |none=>([],ms00,false)
structure okW (N n:Nat) (P:Pg) (l:List Int) (fuel:Int):Prop where
 p:okPg N P
 c:P.g.c.length≤1000000
 a:P.g.a.length≤1000000
 q:∀x∈P.g.a,1≤x.n∧x.n≤1048576
 i:l.length≤1000000
 f:fuel<n
 n:n≤1000000000
theorem okW.ps {N n:Nat} {P:Pg} {l:List Int} {fuel:Int} (h:okW N n P l fuel):∀g∈P.fs,g.ps.length≤5000:=fun g hg=>(h.p.f g hg).1.1
theorem okW.r {N n:Nat} {P:Pg} {l:List Int} {fuel:Int} (h:okW N n P l fuel) (f:List UInt8) (i:Int):okR N n P (pkF (canF P f l) i) (blS P) fuel:=
 ⟨h.p,h.c,h.a,h.q,by simp[blS,blC];exact h.c,by simp[blS,blA];exact h.a,by rw[pkF_len];exact canF_len h.ps,h.f,h.n⟩
abbrev yc_Count (p:Pg) (f:List UInt8) (l:List Int):Prop:=p.g.c.length≤1000000∧l.length≤1000000∧p.fs.length≤1000000∧∀g∈p.fs,g.ps.length≤5000
abbrev yr_Count (p:Pg) (f:List UInt8) (l:List Int):SV:=.one (.v (.int .i64 (cntF p f l)))
noncomputable abbrev ya_Count:ArgC ((Pg)×(List UInt8)×(List Int)×Unit):=(acS (cPg) (acS (cStr) (acS (cI6) ac0)))
abbrev yq_Count:Prop:=CallsY Try.prog 7 ya_Count (fun p:(Pg)×(List UInt8)×(List Int)×Unit=>yc_Count p.1 p.2.1 p.2.2.1) (fun p:(Pg)×(List UInt8)×(List Int)×Unit=>yr_Count p.1 p.2.1 p.2.2.1)
theorem yn_Count:∀p:(Pg)×(List UInt8)×(List Int)×Unit,((fun p:(Pg)×(List UInt8)×(List Int)×Unit=>yr_Count p.1 p.2.1 p.2.2.1) p).names=[]:=by intro p;rfl
attribute [local go_sem] cCh_d cCh_e cI6_d cI6_e cPg_d cPg_e cSta_d cSta_e cVas_d cVas_e ouC pgR stR
set_option maxRecDepth 20000 in set_option maxHeartbeats 8000000 in
theorem y_Count:yq_Count:=by
 rintro ⟨p,f,l,_u⟩ w fz xs hc hfz hl hx
 refine calls_toL Try.func7 rfl w fz [yp_candidates,yp_tries] [] ya_Count (fun p:(Pg)×(List UInt8)×(List Int)×Unit=>yr_Count p.1 p.2.1 p.2.2.1) _ xs hfz hl hx (Nat.le_of_ble_eq_true rfl) ?_
 clear hx hl hfz xs
 simp only[Try.f7]
 obtain⟨h1,h2,h3,h4⟩:=hc
 obtain⟨⟨pc,pa⟩,pf⟩:=p
 have hk:(canF ⟨⟨pc,pa⟩,pf⟩ f l).length≤5000:=canF_len h4
 dsimp only at h1 h2 h3 h4
 cases hf:(fnd f pf).isSome with
 |false=>
  have hr:cntF ⟨⟨pc,pa⟩,pf⟩ f l=0:=if_neg (by rw[hf];decide)
  simp only[↓eB,seval,go_sem,yp_candidates,yr_candidates,yp_tries,yr_tries,yp_pick,yr_pick,yg_Call,yF_Blank,hf]
  refine⟨⟨h1,h2,h3,h4⟩,?_⟩
  refine ret_with [] ?_;simp only[↓eB,seval,go_sem,bne,yr_Count,hr]
 |true=>
  have hr:cntF ⟨⟨pc,pa⟩,pf⟩ f l=triF (canF ⟨⟨pc,pa⟩,pf⟩ f l):=if_pos hf
  simp only[↓eB,seval,go_sem,yp_candidates,yr_candidates,yp_tries,yr_tries,yp_pick,yr_pick,yg_Call,yF_Blank,hf]
  refine⟨⟨h1,h2,h3,h4⟩,(by show _≤_;omega),?_⟩
  refine ret_with [] ?_;simp only[↓eB,seval,go_sem,bne,yr_Count,hr]
noncomputable def yp_Count {X:Ctx} {w0:World}:Sy.Spec Try.prog X w0:=specD 7 Try.call7 ya_Count (fun p:(Pg)×(List UInt8)×(List Int)×Unit=>yc_Count p.1 p.2.1 p.2.2.1) (fun p:(Pg)×(List UInt8)×(List Int)×Unit=>yr_Count p.1 p.2.1 p.2.2.1) yn_Count y_Count
abbrev zT46:List C:=tgN 42 7
abbrev ouZ:List C:=[C.v (.int .i64 0),C.v (.int .i64 0),C.v (.string (bs [])),C.v (.int .i64 0),C.v (.int .i64 0),C.v (.slice none 0 0),C.v (.slice none 0 0)]
abbrev yc_First (N:Nat) (n:Nat) (p:Pg) (f:List UInt8) (fuel:Int) (l:List Int):Prop:=okW N n p l fuel
abbrev yr_First (N:Nat) (n:Nat) (p:Pg) (f:List UInt8) (fuel:Int) (l:List Int):SV:=.tup [.inl (.d (.sl zVaD ((firA n p f fuel l).1.map Va.r))),.inr (ouC (firA n p f fuel l).2.1),.inl (.v (.bool (firA n p f fuel l).2.2))]
noncomputable abbrev ya_First:ArgC ((Pg)×(List UInt8)×(Int)×(List Int)×Unit):=(acS (cPg) (acS (cStr) (acS (cInt .i64) (acS (cI6) ac0))))
abbrev yq_First (N:Nat) (n:Nat):Prop:=CallsY Try.prog 6 ya_First (fun p:(Pg)×(List UInt8)×(Int)×(List Int)×Unit=>yc_First N n p.1 p.2.1 p.2.2.1 p.2.2.2.1) (fun p:(Pg)×(List UInt8)×(Int)×(List Int)×Unit=>yr_First N n p.1 p.2.1 p.2.2.1 p.2.2.2.1)
theorem yn_First (N:Nat) (n:Nat):∀p:(Pg)×(List UInt8)×(Int)×(List Int)×Unit,((fun p:(Pg)×(List UInt8)×(Int)×(List Int)×Unit=>yr_First N n p.1 p.2.1 p.2.2.1 p.2.2.2.1) p).names=[]:=by intro p;rfl
noncomputable def yg_First {X:Ctx} {w0:World} (N:Nat) (n:Nat) (h:yq_First N n):Sy.Spec Try.prog X w0:=specD 6 Try.call6 ya_First (fun p:(Pg)×(List UInt8)×(Int)×(List Int)×Unit=>yc_First N n p.1 p.2.1 p.2.2.1 p.2.2.2.1) (fun p:(Pg)×(List UInt8)×(Int)×(List Int)×Unit=>yr_First N n p.1 p.2.1 p.2.2.1 p.2.2.2.1) (yn_First N n) h
set_option maxRecDepth 20000 in set_option maxHeartbeats 16000000 in
theorem y_First (N:Nat) (n:Nat):yq_First N n:=by
 rintro ⟨p,f,fuel,l,_u⟩ w fz xs hc hfz hl hx
 refine calls_toL Try.func6 rfl w fz [yp_candidates,yp_tries,yp_pick,yp_Blank,(yg_Call N n (y_Call N n))] [(5,[.fz 28,.fz 600028])] ya_First (fun p:(Pg)×(List UInt8)×(Int)×(List Int)×Unit=>yr_First N n p.1 p.2.1 p.2.2.1 p.2.2.2.1) _ xs hfz hl hx (Nat.le_of_ble_eq_true rfl) ?_
 clear hx hl hfz xs
 simp only[Try.f6]
 obtain⟨⟨pc,pa⟩,pf⟩:=p
 have hw:okW N n ⟨⟨pc,pa⟩,pf⟩ l fuel:=hc
 have hk:(canF ⟨⟨pc,pa⟩,pf⟩ f l).length≤5000:=canF_len hw.ps
 have hne:∀x∈canF ⟨⟨pc,pa⟩,pf⟩ f l,0<x.length∧x.length≤1000000000:=canF_ne hw.c hw.i
 obtain⟨t1,t2⟩:=triL_rg _ 1 hne (Int.le_refl _) (by decide)
 have hcan:yc_candidates ⟨⟨pc,pa⟩,pf⟩ f l:=⟨hw.c,hw.i,hw.p.l,hw.ps⟩
 cases hf:(fnd f pf).isSome with
 |false=>
  have hr:firA n ⟨⟨pc,pa⟩,pf⟩ f fuel l=([],ms00,false):=by
   have:firF n ⟨⟨pc,pa⟩,pf⟩ f fuel l=none:=if_neg (by rw[hf];decide)
   unfold firA;rw[this]
  simp only[↓eB,seval,go_sem,yp_candidates,yr_candidates,yp_tries,yr_tries,yp_pick,yr_pick,yg_Call,yF_Blank,hf]
  refine⟨hcan,?_⟩
  refine ret_with [] ?_;simp only[↓eB,seval,go_sem,bne,yr_First,hr,ms00]
 |true=>
  have hfr:firF n ⟨⟨pc,pa⟩,pf⟩ f fuel l=firG (firM n ⟨⟨pc,pa⟩,pf⟩ f fuel l) (triF (canF ⟨⟨pc,pa⟩,pf⟩ f l)).toNat 0:=if_pos hf
  simp only[↓eB,seval,go_sem,yp_candidates,yr_candidates,yp_tries,yr_tries,yp_pick,yr_pick,yg_Call,yF_Blank,amCl_d,amCl_a,amCl_m,clJ_eq,lmH,lmO,chL,ML.ch,mlO_none,mlO_some,mlO_nil,updL,updX,nmX,xt,bumpL,ML.ren,rnC,renQ,renQC,vrQ,spL_some,fcN,↓e_fac4,yN_Blank,R_Bl,M_Bl,nbL_rn,naL_rn,nbL_nm,naL_nm,hf,nb_dss,na_dss,nbL_fz,naL_fz,zNb,zNa]
  have hbl:Cd_Bl ((⟨⟨pc,pa⟩,pf⟩:Pg),()):=⟨hw.c,hw.a,fun x hx=>(hw.q x hx).2⟩
  refine⟨hcan,hbl,(by show _≤_;omega),?_⟩
  obtain⟨cs,hcs⟩:∃cs,canF ⟨⟨pc,pa⟩,pf⟩ f l=cs:=⟨_,rfl⟩
  obtain⟨T,hT⟩:∃T:Nat,triF cs=(T:Int):=⟨(triF cs).toNat,by rw[← hcs];unfold triF;omega⟩
  have hT2:T≤2000:=by rw[hcs]at t2;have:triF cs≤2000:=t2;omega
  rw[hcs]at hk hne
  rw[hcs,hT]at hfr
  obtain⟨g,hg⟩:∃g,firM n ⟨⟨pc,pa⟩,pf⟩ f fuel l=g:=⟨_,rfl⟩
  have hgi:∀i:Nat,clF n ⟨⟨pc,pa⟩,pf⟩ f (pkF cs (i:Int)) ⟨blC pc,blA pa⟩ fuel=g i:=fun i=>by rw[← hg,← hcs];rfl
  have hcr:∀i:Nat,okR N n ⟨⟨pc,pa⟩,pf⟩ (pkF cs (i:Int)) ⟨blC pc,blA pa⟩ fuel:=fun i=>by rw[← hcs];exact hw.r f i
  rw[hg]at hfr
  have hfr:firF n ⟨⟨pc,pa⟩,pf⟩ f fuel l=firG g T 0:=hfr
  simp only[hcs,hT]
  refine loop_ok (Y:=Nat) (fun i=>i≤T∧firG g (T-i) i=firG g T 0)
   (fun i=>⟨[(1,true,.one (.v (.string (bs f)))),(2,true,.one (.v (.int .i64 fuel))),(4,true,.one (.p 4 0 0)),(8,true,.one (.v (.slice none 0 0))),(9,true,.one (.p 9 0 0)),(10,true,.one (.v (.bool false))),(11,true,.one (.d (.sl zVsD (cs.map vsD1)))),(13,true,.one (.p 13 0 0)),(30,true,.one (.v (.int .i64 (T:Int)))),(31,true,.one (.v (.int .i64 (i:Int))))],
    [(4,.vec 0 [C.v (.bool false),C.v (.bool false),C.v (.bool false)] [[.d (.sl zSqD (pc.map cSd)),.d (.sl zGyD (pa.map Gy.r)),.d (.sl zFn (pf.map Fn.r))]]),(9,.vec 0 zT46 [ouZ]),(13,.vec 0 zT44 [[.d (.sl [.v (.string (bs [])),.v (.int .i64 0)] ((blC pc).map Nb.r)),.d (.sl [.v (.string (bs [])),.v (.slice none 0 0)] ((blA pa).map Na.r))]])]⟩)
   (fun i=>T-i) 0 ⟨Nat.zero_le _,rfl⟩ ?_ ?_
  ·refine to_with [] ?_;simp only[↓eB,seval,go_sem,zT44,zT46,zNb,zNa,ouZ]
  ·rintro i ⟨hi,hI⟩
   refine vc_ok [yp_candidates,yp_tries,yp_pick,yp_Blank,yg_Call N n (y_Call N n)] [] _ _ _ ?_
   by_cases hlt:i<T
   ·obtain⟨r,hr1⟩:∃r,T-i=r+1:=⟨T-i-1,by omega⟩
    rw[hr1]at hI
    have hd:decide ((i:Int)<(T:Int))=true:=decide_eq_true (by omega)
    have hpc:yc_pick cs (i:Int):=⟨hk,hne,(by omega),(by omega)⟩
    have hw1:IntKind.i64.wrap ((i:Int)+1)=((i+1:Nat):Int):=by rw[wrap_i64 (by omega) (by omega)];omega
    obtain⟨m,hm⟩:∃m,g i=m:=⟨_,rfl⟩
    have hgm:=(hgi i).trans hm
    have hcri:=hcr i
    cases he:(m.e==1) with
    |true=>
     have hr:firA n ⟨⟨pc,pa⟩,pf⟩ f fuel l=(pkF cs (i:Int),m,true):=by
      have h2:firG g (r+1) i=some i:=if_pos (by rw[hm];exact he)
      have h3:firF n ⟨⟨pc,pa⟩,pf⟩ f fuel l=some i:=hfr.trans (hI.symm.trans h2)
      unfold firA;rw[h3];dsimp only;rw[hg,hm,hcs]
     simp only[↓eB,seval,go_sem,yp_candidates,yr_candidates,yp_tries,yr_tries,yp_pick,yr_pick,yg_Call,yF_Blank,hd,hgm,he,zT44,zT46,zNb,zNa,ouZ]
     refine⟨hpc,hcri,chk_ok (by kernel_rfl),?_⟩
     refine ret_with [] ?_;simp only[↓eB,seval,go_sem,bne,yr_First,hr]
    |false=>
     have hI2:firG g r (i+1)=firG g T 0:=by
      rw[← hI];exact(if_neg (by rw[hm,he];decide)).symm
     simp only[↓eB,seval,go_sem,yp_candidates,yr_candidates,yp_tries,yr_tries,yp_pick,yr_pick,yg_Call,yF_Blank,hd,hgm,he,hw1,zT44,zT46,zNb,zNa,ouZ]
     refine⟨hpc,hcri,i+1,⟨(by omega),(by rw[show T-(i+1)=r by omega];exact hI2)⟩,(by omega),?_⟩
     refine to_with [] ?_;simp only[↓eB,seval,go_sem]
   ·have hiT:i=T:=by omega
    subst hiT
    have hd:decide ((i:Int)<(i:Int))=false:=decide_eq_false (by omega)
    have hr:firA n ⟨⟨pc,pa⟩,pf⟩ f fuel l=([],ms00,false):=by
     have h2:firF n ⟨⟨pc,pa⟩,pf⟩ f fuel l=none:=by rw[hfr,← hI,Nat.sub_self];rfl
     unfold firA;rw[h2]
    simp only[↓eB,seval,go_sem,yp_candidates,yr_candidates,yp_tries,yr_tries,yp_pick,yr_pick,yg_Call,yF_Blank,hd,zT44,zT46,ouZ]
    refine ret_with [] ?_;simp only[↓eB,seval,go_sem,bne,yr_First,hr,ms00]
end Go.Proofs.Ytjnnmindcbgjhab
