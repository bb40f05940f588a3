/- A run, walked. No conditions but those in each statement. -/
import Derived.Test.YtjnnmindcbgjhaaRml
import Derived.Test.YtjnnmindcbgjhaaRmi
import Derived.Test.YtjnnmindcbgjhaaPgm
import Derived.Test.YtjnnmindcbgjhaaRows
import Derived.Test.YtjnnmindcbgjhaaOp
import Derived.Lib.SmallJoins
import Derived.Carry
set_option linter.unusedVariables false
set_option linter.unusedSimpArgs false
namespace Go.Proofs.Ytjnnmindcbgjhaa
open Go Go.Sy Go.RowKit
section
variable {X:Ctx} {w0:World}
noncomputable def Z9:Sy.Spec Try.prog X w0:=Dt 31 Try.call31 (DV 32 mPg) V9 (fun _=>false) Tc M_C1 (fun _=>mlO [none])
 (fun p _ _=>⟨rfl,rfl,rfl,Pz _ (OR p.2)⟩) (fun a _ h=>by cases h) (fun a _ h=>by cases h) (fun _=>rfl) bi
noncomputable def ZA:Sy.Spec Try.prog X w0:=Dt 31 Try.call31 (DV 33 mPg) VA (fun _=>false) Td Te (fun _=>mlO [none])
 (fun p _ _=>⟨rfl,rfl,rfl,Pz _ (OR p.2)⟩) (fun a _ h=>by cases h) (fun a _ h=>by cases h) (fun _=>rfl) bj
noncomputable def ZB:Sy.Spec Try.prog X w0:=Dt 31 Try.call31 (DV 34 mPg) VB (fun _=>false) Tf M_C3 (fun _=>mlO [none])
 (fun p _ _=>⟨rfl,rfl,rfl,Pz _ (OR p.2)⟩) (fun a _ h=>by cases h) (fun a _ h=>by cases h) (fun _=>rfl) bk
noncomputable def ZC:Sy.Spec Try.prog X w0:=Tj (Lj 33) ZA ZB rfl
noncomputable def UT:Sy.Spec Try.prog X w0:=Tj (Lj 32) Z9 ZC rfl
theorem bx (t:Nat) (args:List SV) (H:Hp):(UT (X:=X) (w0:=w0)).fn t args H=if Lj 32 args=true then spL X ((DV 32 mPg).d H args) t H V9 (fun _=>false) Tc M_C1 (fun _=>mlO [none])
 else if Lj 33 args=true then spL X ((DV 33 mPg).d H args) t H VA (fun _=>false) Td Te (fun _=>mlO [none]) else spL X ((DV 34 mPg).d H args) t H VB (fun _=>false) Tf M_C3 (fun _=>mlO [none]):=rfl
theorem ZD {F:FuncId} {t:Nat} {args:List SV} {H:Hp} {Cd:Int×Pg→Prop} {R:Int×Pg→SV} {M:Int×Pg→List (Option ML)} {pan:Int×Pg→List (Option ML)} {c:Prop} {e:Eff} {fp:List Nat} (hR:∀q,K8 (R q)=true∧(R q).names=[]∧∃y,R q= .one (.d y)) (hM:∀q,M q=[some (.vec zPg [pgR q.2])])
  (h:spL X ((DV F mPg).d H args) t H Cd (fun _=>false) R M pan=some (c,e,fp)):Vz H e.upd∧K8 e.val=true∧e.val.names=[]:=by
 cases hd:(DV F mPg).d H args with
 |none=>rw[hd]at h;cases hf:H (fcN t)<;>cases hg:H (t+600000)<;>(simp only[spL]at h;cases h)
 |some p=>
  obtain⟨⟨n,b⟩,ks⟩:=p
  obtain⟨k,u,z,rfl,rfl,h1,hz,hz0⟩:=Vo hd
  rw[hd,DW]at h
  split at h
  case h_2=>cases h
  rename_i hf _
  simp only[jS,jP]at h
  obtain⟨_,rfl,_⟩:=h
  obtain⟨g1,g2,y,g3⟩:=hR (n,b)
  have hv:EX H [k] t (R (n,b))=R (n,b):=by rw[g3];rfl
  refine⟨?_,by rw[hv];exact g1,by rw[hv];exact g2⟩
  rw[hM]
  intro k2 ch hk2
  have hne:k2≠fcN t:=by rintro rfl;rw[hf]at hk2;cases hk2
  by_cases e:k2=k
  ·subst e
   rw[h1]at hk2
   simp only[jS]at hk2
   subst hk2
   refine .inr ⟨u,u+1,z,zPg,[mPg.e b],rfl,?_,fB (fun c hc=>?_),hz,hz0⟩
   ·simp only[CT,Ee,List.append_nil,List.cons_append,List.nil_append,updH,upd,h1,Option.map_some,EA,if_true]
    congr 2
    simp only[ML.ren,List.map_cons,List.map_nil,P5]
    rw[Dh fun c hc=>EW (OR b c hc)]
    exact if_neg hne
   ·simp only[P5,pgR,List.mem_cons,List.not_mem_nil,or_false]at hc
    rcases hc with rfl|rfl|rfl<;>exact⟨rfl,rfl⟩
  ·left
   simp only[CT,Ee,List.append_nil,List.cons_append,List.nil_append,updH,upd,if_neg e,if_neg hne]
   exact hk2
noncomputable def RM:Sy.Spec Try.prog X w0:=tq UT (fun t args H c e fp h _ _=>by
 rw[bx]at h
 split at h
 ·exact ZD (fun q=>⟨rfl,rfl,_,rfl⟩) (fun q=>rfl) h
 ·split at h
  ·exact ZD (fun q=>⟨rfl,rfl,_,rfl⟩) (fun q=>rfl) h
  ·exact ZD (fun q=>⟨rfl,rfl,_,rfl⟩) (fun q=>rfl) h)
theorem fC:(RM (X:=X) (w0:=w0)).f=31:=rfl
theorem fD (t:Nat) (args:List SV) (H:Hp):(RM (X:=X) (w0:=w0)).fn t args H=match (if Lj 32 args=true then spL X ((DV 32 mPg).d H args) t H V9 (fun _=>false) Tc M_C1 (fun _=>mlO [none])
 else if Lj 33 args=true then spL X ((DV 33 mPg).d H args) t H VA (fun _=>false) Td Te (fun _=>mlO [none]) else spL X ((DV 34 mPg).d H args) t H VB (fun _=>false) Tf M_C3 (fun _=>mlO [none])) with
  |some (c,e,fp)=>some (c,⟨e.val,[]⟩,fp)
  |none=>none:=rfl
noncomputable def RN:Sy.Spec Try.prog X w0:=Dt 35 Try.call35 Mp VC (fun _=>false) Vy M_st (fun _=>mlO [])
 (fun p _ _=>⟨rfl,rfl,rfl,bp [] _ _⟩) (fun a _ h=>by cases h) (fun a _ h=>by cases h) (fun _=>rfl) mO
theorem fE:(RN (X:=X) (w0:=w0)).f=35:=rfl
theorem fF (t:Nat) (args:List SV) (H:Hp):(RN (X:=X) (w0:=w0)).fn t args H=spL X (Mp.d H args) t H VC (fun _=>false) Vy M_st (fun _=>mlO []):=rfl
noncomputable def Tl (N n:Nat) (h:Cq Try.prog 36 (HP.args 0) HP.mem (VD N n) (fun _=>.tup []) (Tk n)):Sy.Spec Try.prog X w0:=
 DT 36 Try.call36 HP (VD N n) (fun _=>.tup []) (Tk n) (fun _ _=>rfl) (fun _ _=>rfl) (fun _ _=>OO _ _) h
theorem mR (N n:Nat) (h):(Tl (X:=X) (w0:=w0) N n h).f=36:=rfl
theorem mS (N n:Nat) (h) (t:Nat) (args:List SV) (H:Hp):(Tl (X:=X) (w0:=w0) N n h).fn t args H=spM (HP.d H args) t H (VD N n) (fun _=>.tup []) (Tk n):=rfl
end
theorem tt (l:List Nb):((l.map Nb.c).all fun r=>r.all fun c=>c.names.isEmpty)=true:=by
 rw[List.all_eq_true]
 intro r hr
 obtain⟨a,_,rfl⟩:=List.mem_map.1 hr
 rfl
theorem tu (l:List Na):((l.map Na.c).all fun r=>r.all fun c=>c.names.isEmpty)=true:=by
 rw[List.all_eq_true]
 intro r hr
 obtain⟨a,_,rfl⟩:=List.mem_map.1 hr
 rfl
theorem W0 (l:List Nb):D7 (l.map Nb.c)=some (l.map Nb.r):=FX Nb.c (fun _=>rfl) l
theorem tv (l:List Int):D7 (l.map cI)=some (l.map iD):=FX cI (fun _=>rfl) l
theorem W1 (l:List Na):D7 (l.map Na.c)=some (l.map Na.r):=FX Na.c (fun x=>by
 simp only[Na.c,Eg,toD,zI,tv,Na.r]) l
theorem W2 (k:Nat) (z:List D) (e:List (List D)) (l:List Nb):(l.map Nb.c).map (fun r=>r.map (fzC k z e))=l.map Nb.c:=G1 Nb.c (fun _=>rfl) l
theorem W3 (k:Nat) (z:List D) (e:List (List D)) (l:List Na):(l.map Na.c).map (fun r=>r.map (fzC k z e))=l.map Na.c:=G1 Na.c (fun _=>rfl) l
def ms0 (P:Pg) (s:Sta) (fuel:Int):Ms:=⟨mn fuel 1048576,0,stCs P.g.c s.cs,stA P.g.a s.ar,2,0,[],0,0⟩
def clF (n:Nat) (P:Pg) (f:List UInt8) (va:List Va) (s:Sta) (fuel:Int):Ms:=if 1≤fuel then rnZ (rnA n P f va (ms0 P s fuel)) else ms0 P s fuel
def ouC (m:Ms):List C:=[.v (.int .i64 m.e),.v (.int .i64 m.v),.v (.string (bs m.f)),.v (.int .i64 m.al),.v (.int .i64 m.k),.d (.sl NZ (m.cs.map Nb.r)),.d (.sl Nc (m.ar.map Na.r))]
structure okR (N n:Nat) (P:Pg) (va:List Va) (s:Sta) (fuel:Int):Prop where
 p:okPg N P
 c:P.g.c.length≤1000000
 a:P.g.a.length≤1000000
 l:∀x∈P.g.a,1≤x.n∧x.n≤1048576
 sc:s.cs.length≤1000000
 sa:s.ar.length≤1000000
 v:va.length≤5000
 f:fuel<n
 n:n≤1000000000
theorem mT (p:List Gy) (s:List Na) (h:∀x∈p,x.n≤1048576):∀x∈stA p s,x.l.length≤1000000000:=by
 intro x hx
 obtain⟨y,hy,rfl⟩:=List.mem_map.1 hx
 obtain⟨g,hg,rfl⟩:=List.mem_map.1 hy
 have:=h g hg
 unfold Nd
 split
 ·dsimp only;rw[mK];simp;omega
 ·simp;omega
theorem zb (x:Int):mn x 1048576≤x∧mn x 1048576≤1048576∧(1≤x→1≤mn x 1048576):=by unfold mn;split<;>omega
abbrev YD (N:Nat) (n:Nat) (p:Pg) (f:List UInt8) (va:List Va) (s:Sta) (fuel:Int):Prop:=okR N n p va s fuel
abbrev M5 (N:Nat) (n:Nat) (p:Pg) (f:List UInt8) (va:List Va) (s:Sta) (fuel:Int):SV:=.agg (ouC (clF n p f va s fuel))
noncomputable abbrev Tm:ArgC ((Pg)×(List UInt8)×(List Va)×(Sta)×(Int)×Unit):=(acS (cPg) (acS (cStr) (acS (Ta) (acS (cSta) (acS (cInt .i64) ac0)))))
abbrev YE (N:Nat) (n:Nat):Prop:=Cg Try.prog 17 Tm (fun p:(Pg)×(List UInt8)×(List Va)×(Sta)×(Int)×Unit=>YD N n p.1 p.2.1 p.2.2.1 p.2.2.2.1 p.2.2.2.2.1) (fun p:(Pg)×(List UInt8)×(List Va)×(Sta)×(Int)×Unit=>M5 N n p.1 p.2.1 p.2.2.1 p.2.2.2.1 p.2.2.2.2.1)
theorem mU (N:Nat) (n:Nat):∀p:(Pg)×(List UInt8)×(List Va)×(Sta)×(Int)×Unit,((fun p:(Pg)×(List UInt8)×(List Va)×(Sta)×(Int)×Unit=>M5 N n p.1 p.2.1 p.2.2.1 p.2.2.2.1 p.2.2.2.2.1) p).names=[]:=by intro p;rfl
noncomputable def Jf {X:Ctx} {w0:World} (N:Nat) (n:Nat) (h:YE N n):Sy.Spec Try.prog X w0:=DG 17 Try.call17 Tm (fun p:(Pg)×(List UInt8)×(List Va)×(Sta)×(Int)×Unit=>YD N n p.1 p.2.1 p.2.2.1 p.2.2.2.1 p.2.2.2.2.1) (fun p:(Pg)×(List UInt8)×(List Va)×(Sta)×(Int)×Unit=>M5 N n p.1 p.2.1 p.2.2.1 p.2.2.2.1 p.2.2.2.2.1) (mU N n) h
attribute [local go_sem] Fa.mem Fa.memO Fa.pan ML.ch ML.ren Sd Vq Se Jt SZ Sa Fo Fm Fp EA NF NE Vu Vt BV BJ chL Sc Hf E5 E4 Fu fcN SY V8 Je frC Hg Fl lmH lmO FO Gj Gk SS P5 SR Qj SW SX mcC Hh Gg mcW EZ Dl Dm FP tu LJ Vx tt Jz Vv nmX pgR Ds EY Dj Dk FS FR F9 F8 EX Fb rnC DW EC Db stR CT Ee vrQ Hi FB fC mR fE fD mS fF
set_option maxRecDepth 20000 in set_option maxHeartbeats 16000000 in
theorem bz (N:Nat) (n:Nat):YE N n:=by
 rintro ⟨p,f,va,s,fuel,_u⟩ w fz xs hc hfz hl hx
 refine Bw Try.func17 rfl w fz [RM,RN,(Tl N n (tn N n))] [(2,[.fold 37 0 8,.fold 37 0 9]),(4,[.unr 37 0 8 1008,.unr 37 0 9 1009])] Tm (fun p:(Pg)×(List UInt8)×(List Va)×(Sta)×(Int)×Unit=>M5 N n p.1 p.2.1 p.2.2.1 p.2.2.2.1 p.2.2.2.2.1) _ xs hfz hl hx (jN rfl) ?_
 clear hx hl hfz xs
 simp only[Try.f17]
 obtain⟨⟨pc,pa⟩,pf⟩:=p
 obtain⟨sc,sa⟩:=s
 obtain⟨hP,hc,ha,hl,hsc,hsa,hva,hfn,hn9⟩:=hc
 dsimp only at hc ha hl hsc hsa
 have hfn:fuel<n:=hfn
 have hfm:=zb fuel
 have hB:Qk ((⟨⟨pc,pa⟩,pf⟩:Pg),()):=⟨hc,ha,fun x hx=>(hl x hx).2⟩
 have hS:VC ((⟨⟨pc,pa⟩,pf⟩:Pg),⟨sc,sa⟩,()):=⟨hB,fun x hx=>(hl x hx).1,hsc,hsa⟩
 by_cases h1:1≤fuel
 ·have hd:decide (1≤fuel)=true:=decide_eq_true h1
  obtain⟨m,hm⟩:∃m,rnZ (rnA n ⟨⟨pc,pa⟩,pf⟩ f va ⟨mn fuel 1048576,0,stCs pc sc,stA pa sa,2,0,[],0,0⟩)=m:=⟨_,rfl⟩
  have hr:clF n ⟨⟨pc,pa⟩,pf⟩ f va ⟨sc,sa⟩ fuel=m:=by unfold clF;rw[if_pos h1];exact hm
  simp only[↓eB,seval,go_sem,xt,↓A1,hd,hm]
  refine⟨⟨by simp,by simpa using hP.l⟩,⟨rfl,hc⟩,⟨by simp,by simpa using ha⟩,hS,Dw (by kernel_rfl),⟨⟨hP,⟨by simp[stCs,blC],by simp[stA,blA],hc,ha⟩,mT pa sa (fun x hx=>(hl x hx).2),by have:=hfm.2.2 h1;show 0≤mn fuel 1048576;omega,by show mn fuel 1048576<(n:Int);omega⟩,hva,hn9⟩,?_⟩
  refine A0 [.fz 1008,.fz 1009] ?_;simp only[↓eB,seval,go_sem,bne,M5,hr,ouC,W0,W1,W2,W3,zNb,zNa]
 ·have hd:decide (1≤fuel)=false:=decide_eq_false h1
  have hr:clF n ⟨⟨pc,pa⟩,pf⟩ f va ⟨sc,sa⟩ fuel=⟨mn fuel 1048576,0,stCs pc sc,stA pa sa,2,0,[],0,0⟩:=by unfold clF;rw[if_neg h1];rfl
  simp only[↓eB,seval,go_sem,xt,↓A1,hd]
  refine⟨⟨by simp,by simpa using hP.l⟩,⟨rfl,hc⟩,⟨by simp,by simpa using ha⟩,hS,Dw (by kernel_rfl),?_⟩
  refine A0 [.fz 1008,.fz 1009] ?_;simp only[↓eB,seval,go_sem,bne,M5,hr,ouC,W0,W1,W2,W3,zNb,zNa]
end Go.Proofs.Ytjnnmindcbgjhaa
namespace Go.Proofs.Ytjnnmindcbgjhaa
open Go Go.Sy Go.RowKit
abbrev i8R (n:Int):Prop := -128≤n∧n≤127
def fG (n:Nat) (s:Sm):Bool:=decide (s.e.dp<n)&&decide (s.f.dp<n)&&decide (s.cd.dp<n)&&s.ar.all (fun a=>decide (a.e.dp<n))&&decide (s.ar.length≤5000)
theorem mV {n:Nat} {s:Sm} (h:fG n s=true):OkS n s:=by
 simp only[fG,Bool.and_eq_true,decide_eq_true_eq,List.all_eq_true]at h
 exact⟨h.1.1.1.1,h.1.1.1.2,h.1.1.2,h.1.2,h.2⟩
def P9 (n:Nat):Nat→List Sm→Bool
 |0,_=>false
 |m+1,l=>decide (l.length≤5000)&&l.all fun s=>fG n s&&P9 n m s.th&&P9 n m s.el
theorem Qn {n:Nat}:∀{m:Nat} {l:List Sm},P9 n m l=true→okB n m l
 |0,l,h=>by cases h
 |m+1,l,h=>by
  simp only[P9,Bool.and_eq_true,decide_eq_true_eq,List.all_eq_true]at h
  exact⟨h.1,fun s hs=>⟨mV (h.2 s hs).1.1,Qn (h.2 s hs).1.2,Qn (h.2 s hs).2⟩⟩
def ZE (f:Fn):Bool:=decide (f.ps.length≤5000)&&decide (f.ls.length≤5000)
theorem YF {f:Fn} (h:ZE f=true):okF f:=by
 simp only[ZE,Bool.and_eq_true,decide_eq_true_eq]at h;exact h
def tw (N M:Nat) (P:Pg):Bool:=decide (P.fs.length≤1000000)&&P.fs.all fun f=>ZE f&&P9 N M f.body
theorem YG {N M:Nat} {P:Pg} (h:tw N M P=true):okPg N P:=by
 simp only[tw,Bool.and_eq_true,decide_eq_true_eq,List.all_eq_true]at h
 exact⟨h.1,fun f hf=>⟨YF (h.2 f hf).1,M,Qn (h.2 f hf).2⟩⟩
theorem cA {n m:Nat} {gl:List UInt8→List Gi} {s t:List UInt8} (h1:(s==Ko)=false) (h2:Ed t) (h3:(ZE (GI t).1&&P9 n m (GI t).1.body)=true):okUn n m gl ⟨s,t⟩:=by
 simp only[Bool.and_eq_true]at h3
 exact⟨fun h=>(by rw[h1]at h;cases h),fun _=>h2,fun _=>YF h3.1,fun _=>Qn h3.2⟩
theorem cB (s t:List UInt8):mUn.d [.v (.string (bs s)),.v (.string (bs t))]=some ⟨s,t⟩:=Kv kK ⟨s,t⟩
def kgl:List UInt8→List Gi:=fun _=>[.c [99]]
end Go.Proofs.Ytjnnmindcbgjhaa
namespace Go.Proofs.Ytjnnmindcbgjhaa
open Go Go.Sy Go.RowKit Go.ChangeShapes Go.WideShapes Go.ChangeAt
theorem A4Y:ownKnob Try.prog.godebug=none:=by kernel_rfl
theorem zc:laidOutB Try.prog=true:=by kernel_rfl
theorem Pa {H:Type} {enc:TypeId×Value→H} {P:Program} (hl:laidOutB P=true) {W W':World} (hb:Below W.heap.size W W'):∀(ts:List TypeId) (vs:List Value) (ds:List (DataW H)) (ps:List MemPlace),
  (∀t∈ts,P.readableRec t=true∧t<P.types.size)→DataW.TrodAll enc P W 0 (fun _=>true) true ts vs ds ps→(∀x∈ps,x.block<W.heap.size)→DataW.TrodAll enc P W' 0 (fun b=>decide (b<W.heap.size)) true ts vs ds ps
 |[],vs,ds,ps,_,h,_=>by
  obtain⟨rfl,rfl,rfl⟩:=trodAll_nil h
  exact trodAll_mk0
 |t::ts,vs,ds,ps,hts,h,hlt=>by
  obtain⟨v,vs',d,ds',p,q,rfl,rfl,rfl,h1,h2⟩:=trodAll_cons h
  have ht:=hts t (List.mem_cons_self ..)
  exact trodAll_cons_mk (Below.trod hl ht.1 ht.2 h1 hb fun x hx=>hlt x (List.mem_append_left _ hx))
   (Pa hl hb ts vs' ds' q (fun t' ht'=>hts t' (List.mem_cons_of_mem _ ht')) h2 fun x hx=>hlt x (List.mem_append_right _ hx))
theorem fH {H:Type} {enc:TypeId×Value→H} {f:Func} {s:ChangeSpec} {W W':World} {args:Array Value} {ds gs:List (DataW H)} {before:List MemPlace} (hW:DataW.Whole enc Try.prog f.params.toList s.vars false W args.toList ds gs before)
  (hv:s.vars=[]) (hr:f.resultTypes = #[4]) (hts:∀t∈f.params.toList,Try.prog.readableRec t=true∧t<Try.prog.types.size)
  (hf:gs=[]→(s.fn H (ds++gs)).results=[.lit (.bool true)]∧(s.fn H (ds++gs)).args=ds∧(s.fn H (ds++gs)).vars=[]) (hb:Below W.heap.size W W') :
  s.post enc Try.prog f false true false false W args (.bool true) W':=by
 have hlt:=hW.lt
 have hW0:=hW
 obtain⟨p,q,hA,hV,rfl,_,_⟩:=hW
 rw[hv]at hV
 obtain⟨rfl,rfl⟩:=trodVars_none hV
 obtain⟨f1,f2,f3⟩:=hf rfl
 refine⟨ds,[],p++[],[],p,[],hW0,?_,?_,?_,hb.frame _,fun h=>by cases h⟩
 ·rw[f1,hr]
  exact trodAll_cons_mk (shut_bool Try.underlying4 true) trodAll_mk0
 ·rw[f2]
  exact Pa zc hb _ _ _ _ hts hA fun x hx=>by simpa using hlt x (List.mem_append_left _ hx)
 ·rw[f3,hv];rfl
theorem cC {P:Program} {f:FuncId} {A:Type} {ac:ArgH A} {Cd:A→Prop} {F:A→SV} (h:LS P f ac Cd F) (a:A) (w:World) (hc:Cd a) (vals:List Value) (val:Value) (hl:vals.length=(ac.e a).length)
  (h1:∀(j:Nat) (v:SV) (x:Value),(ac.e a)[j]?=some v→vals[j]?=some x→CD (hp w) (fun b=>b<w.heap.size) v x)
  (h2:Mz (F a)=some val):Calls P f vals.toArray w (fun e w'=>e= .returned val∧Below w.heap.size w w'):=by
 refine(h a w (fun b=>b<w.heap.size) vals hc (fun _ h=>h) hl h1).mono ?_
 rintro e w' ⟨v,x,fz',rfl,rfl,g1,g2,g3,g4,g5,g6⟩
 rw[FK g5 h2]
 exact⟨rfl,g6⟩
section
variable {H:Type} {enc:TypeId×Value→H} {W:World} {base:Nat} {v:Value} {d:DataW H} {p:List MemPlace}
end
end Go.Proofs.Ytjnnmindcbgjhaa
