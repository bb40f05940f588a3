/- A run, walked. No conditions but those in each statement. -/
import Derived.Test.YtjnnmindcbgjhaaRml
import Derived.Test.YtjnnmindcbgjhaaRmi
set_option linter.unusedVariables false
set_option linter.unusedSimpArgs false
namespace Go.Proofs.Ytjnnmindcbgjhaa
open Go Go.Sy Go.RowKit
section
variable {X:Ctx} {w0:World}
noncomputable def aN:Sy.Spec Try.prog X w0:=Dj 31 Try.call31 (Dc 32 mPg) WM (fun _=>false) Up M_C1 (fun _=>mlO [none])
 (fun p _ _=>⟨rfl,rfl,rfl,R4 _ (PJ p.2)⟩) (fun a _ h=>by cases h) (fun a _ h=>by cases h) (fun _=>rfl) dJ
noncomputable def aO:Sy.Spec Try.prog X w0:=Dj 31 Try.call31 (Dc 33 mPg) WN (fun _=>false) Uq Ur (fun _=>mlO [none])
 (fun p _ _=>⟨rfl,rfl,rfl,R4 _ (PJ p.2)⟩) (fun a _ h=>by cases h) (fun a _ h=>by cases h) (fun _=>rfl) dK
noncomputable def aQ:Sy.Spec Try.prog X w0:=Dj 31 Try.call31 (Dc 34 mPg) WO (fun _=>false) Us M_C3 (fun _=>mlO [none])
 (fun p _ _=>⟨rfl,rfl,rfl,R4 _ (PJ p.2)⟩) (fun a _ h=>by cases h) (fun a _ h=>by cases h) (fun _=>rfl) dL
noncomputable def aR:Sy.Spec Try.prog X w0:=Ux (MK 33) aO aQ rfl
noncomputable def Vg:Sy.Spec Try.prog X w0:=Ux (MK 32) aN aR rfl
theorem dX (t:Nat) (args:List SV) (H:Hp):(Vg (X:=X) (w0:=w0)).fn t args H=if MK 32 args=true then spL X ((Dc 32 mPg).d H args) t H WM (fun _=>false) Up M_C1 (fun _=>mlO [none])
 else if MK 33 args=true then spL X ((Dc 33 mPg).d H args) t H WN (fun _=>false) Uq Ur (fun _=>mlO [none]) else spL X ((Dc 34 mPg).d H args) t H WO (fun _=>false) Us M_C3 (fun _=>mlO [none]):=rfl
theorem aS {F:FuncId} {t:Nat} {args:List SV} {H:Hp} {Cd:Int×Pg→Prop} {R:Int×Pg→SV} {M:Int×Pg→List (Option ML)} {pan:Int×Pg→List (Option ML)} {c:Prop} {e:Eff} {fp:List Nat} (hR:∀q,Kf (R q)=true∧(R q).names=[]∧∃y,R q= .one (.d y)) (hM:∀q,M q=[some (.vec zPg [pgR q.2])])
  (h:spL X ((Dc F mPg).d H args) t H Cd (fun _=>false) R M pan=some (c,e,fp)):XB H e.upd∧Kf e.val=true∧e.val.names=[]:=by
 cases hd:(Dc F mPg).d H args with
 |none=>rw[hd]at h;cases hf:H (fcN t)<;>cases hg:H (t+600000)<;>(simp only[spL]at h;cases h)
 |some p=>
  obtain⟨⟨n,b⟩,ks⟩:=p
  obtain⟨k,u,z,rfl,rfl,h1,hz,hz0⟩:=X5 hd
  rw[hd,DA]at h
  split at h
  case h_2=>cases h
  rename_i hf _
  simp only[jS,jP]at h
  obtain⟨_,rfl,_⟩:=h
  obtain⟨g1,g2,y,g3⟩:=hR (n,b)
  have hv:EN H [k] t (R (n,b))=R (n,b):=by rw[g3];rfl
  refine⟨?_,by rw[hv];exact g1,by rw[hv];exact g2⟩
  rw[hM]
  intro k2 ch hk2
  have hne:k2≠fcN t:=by rintro rfl;rw[hf]at hk2;cases hk2
  by_cases e:k2=k
  ·subst e
   rw[h1]at hk2
   simp only[jS]at hk2
   subst hk2
   refine .inr ⟨u,u+1,z,zPg,[mPg.e b],rfl,?_,gh (fun c hc=>?_),hz,hz0⟩
   ·simp only[CR,EW,List.append_nil,List.cons_append,List.nil_append,updH,upd,h1,Option.map_some,Dl,if_true]
    congr 2
    simp only[ML.ren,List.map_cons,List.map_nil,Q1]
    rw[Dq fun c hc=>Eg (PJ b c hc)]
    exact if_neg hne
   ·simp only[Q1,pgR,List.mem_cons,List.not_mem_nil,or_false]at hc
    rcases hc with rfl|rfl|rfl<;>exact⟨rfl,rfl⟩
  ·left
   simp only[CR,EW,List.append_nil,List.cons_append,List.nil_append,updH,upd,if_neg e,if_neg hne]
   exact hk2
noncomputable def SZ:Sy.Spec Try.prog X w0:=vD Vg (fun t args H c e fp h _ _=>by
 rw[dX]at h
 split at h
 ·exact aS (fun q=>⟨rfl,rfl,_,rfl⟩) (fun q=>rfl) h
 ·split at h
  ·exact aS (fun q=>⟨rfl,rfl,_,rfl⟩) (fun q=>rfl) h
  ·exact aS (fun q=>⟨rfl,rfl,_,rfl⟩) (fun q=>rfl) h)
theorem gi:(SZ (X:=X) (w0:=w0)).f=31:=rfl
theorem gj (t:Nat) (args:List SV) (H:Hp):(SZ (X:=X) (w0:=w0)).fn t args H=match (if MK 32 args=true then spL X ((Dc 32 mPg).d H args) t H WM (fun _=>false) Up M_C1 (fun _=>mlO [none])
 else if MK 33 args=true then spL X ((Dc 33 mPg).d H args) t H WN (fun _=>false) Uq Ur (fun _=>mlO [none]) else spL X ((Dc 34 mPg).d H args) t H WO (fun _=>false) Us M_C3 (fun _=>mlO [none])) with
  |some (c,e,fp)=>some (c,⟨e.val,[]⟩,fp)
  |none=>none:=rfl
noncomputable def Sa:Sy.Spec Try.prog X w0:=Dj 35 Try.call35 NU WP (fun _=>false) XA M_st (fun _=>mlO [])
 (fun p _ _=>⟨rfl,rfl,rfl,dQ [] _ _⟩) (fun a _ h=>by cases h) (fun a _ h=>by cases h) (fun _=>rfl) o9
theorem gk:(Sa (X:=X) (w0:=w0)).f=35:=rfl
theorem gm (t:Nat) (args:List SV) (H:Hp):(Sa (X:=X) (w0:=w0)).fn t args H=spL X (NU.d H args) t H WP (fun _=>false) XA M_st (fun _=>mlO []):=rfl
noncomputable def Uz (N n:Nat) (h:Bs Try.prog 36 (Ht.args 0) Ht.mem (WQ N n) (fun _=>.tup []) (Uy n)):Sy.Spec Try.prog X w0:=
 Ca 36 Try.call36 Ht (WQ N n) (fun _=>.tup []) (Uy n) (fun _ _=>rfl) (fun _ _=>rfl) (fun _ _=>PG _ _) h
theorem oC (N n:Nat) (h):(Uz (X:=X) (w0:=w0) N n h).f=36:=rfl
theorem oE (N n:Nat) (h) (t:Nat) (args:List SV) (H:Hp):(Uz (X:=X) (w0:=w0) N n h).fn t args H=spM (Ht.d H args) t H (WQ N n) (fun _=>.tup []) (Uy n):=rfl
end
theorem vE (l:List Nb):((l.map Nb.c).all fun r=>r.all fun c=>c.names.isEmpty)=true:=by
 rw[List.all_eq_true]
 intro r hr
 obtain⟨a,_,rfl⟩:=List.mem_map.1 hr
 rfl
theorem vF (l:List Na):((l.map Na.c).all fun r=>r.all fun c=>c.names.isEmpty)=true:=by
 rw[List.all_eq_true]
 intro r hr
 obtain⟨a,_,rfl⟩:=List.mem_map.1 hr
 rfl
theorem XC (l:List Nb):D4 (l.map Nb.c)=some (l.map Nb.r):=FJ Nb.c (fun _=>rfl) l
theorem vG (l:List Int):D4 (l.map cI)=some (l.map iD):=FJ cI (fun _=>rfl) l
theorem XD (l:List Na):D4 (l.map Na.c)=some (l.map Na.r):=FJ Na.c (fun x=>by
 simp only[Na.c,Eu,toD,zI,vG,Na.r]) l
theorem XE (k:Nat) (z:List D) (e:List (List D)) (l:List Nb):(l.map Nb.c).map (fun r=>r.map (fzC k z e))=l.map Nb.c:=GH Nb.c (fun _=>rfl) l
theorem XF (k:Nat) (z:List D) (e:List (List D)) (l:List Na):(l.map Na.c).map (fun r=>r.map (fzC k z e))=l.map Na.c:=GH Na.c (fun _=>rfl) l
def ms0 (P:Pg) (s:Sta) (fuel:Int):Ms:=⟨mn fuel 1048576,0,stCs P.g.c s.cs,stA P.g.a s.ar,2,0,[],0,0⟩
def clF (n:Nat) (P:Pg) (f:List UInt8) (va:List Va) (s:Sta) (fuel:Int):Ms:=if 1≤fuel then rnZ (rnA n P f va (ms0 P s fuel)) else ms0 P s fuel
def ouC (m:Ms):List C:=[.v (.int .i64 m.e),.v (.int .i64 m.v),.v (.string (bs m.f)),.v (.int .i64 m.al),.v (.int .i64 m.k),.d (.sl ON (m.cs.map Nb.r)),.d (.sl OO (m.ar.map Na.r))]
structure okR (N n:Nat) (P:Pg) (va:List Va) (s:Sta) (fuel:Int):Prop where
 p:okPg N P
 c:P.g.c.length≤1000000
 a:P.g.a.length≤1000000
 l:∀x∈P.g.a,1≤x.n∧x.n≤1048576
 sc:s.cs.length≤1000000
 sa:s.ar.length≤1000000
 v:va.length≤5000
 f:fuel<n
 n:n≤1000000000
theorem oF (p:List Gy) (s:List Na) (h:∀x∈p,x.n≤1048576):∀x∈stA p s,x.l.length≤1000000000:=by
 intro x hx
 obtain⟨y,hy,rfl⟩:=List.mem_map.1 hx
 obtain⟨g,hg,rfl⟩:=List.mem_map.1 hy
 have:=h g hg
 unfold OP
 split
 ·dsimp only;rw[ny];simp;omega
 ·simp;omega
theorem A1J (x:Int):mn x 1048576≤x∧mn x 1048576≤1048576∧(1≤x→1≤mn x 1048576):=by unfold mn;split<;>omega
abbrev ZM (N:Nat) (n:Nat) (p:Pg) (f:List UInt8) (va:List Va) (s:Sta) (fuel:Int):Prop:=okR N n p va s fuel
abbrev Mf (N:Nat) (n:Nat) (p:Pg) (f:List UInt8) (va:List Va) (s:Sta) (fuel:Int):SV:=.agg (ouC (clF n p f va s fuel))
noncomputable abbrev V0:ArgC ((Pg)×(List UInt8)×(List Va)×(Sta)×(Int)×Unit):=(acS (cPg) (acS (cStr) (acS (Um) (acS (cSta) (acS (cInt .i64) ac0)))))
abbrev ZN (N:Nat) (n:Nat):Prop:=CY Try.prog 17 V0 (fun p:(Pg)×(List UInt8)×(List Va)×(Sta)×(Int)×Unit=>ZM N n p.1 p.2.1 p.2.2.1 p.2.2.2.1 p.2.2.2.2.1) (fun p:(Pg)×(List UInt8)×(List Va)×(Sta)×(Int)×Unit=>Mf N n p.1 p.2.1 p.2.2.1 p.2.2.2.1 p.2.2.2.2.1)
theorem oG (N:Nat) (n:Nat):∀p:(Pg)×(List UInt8)×(List Va)×(Sta)×(Int)×Unit,((fun p:(Pg)×(List UInt8)×(List Va)×(Sta)×(Int)×Unit=>Mf N n p.1 p.2.1 p.2.2.1 p.2.2.2.1 p.2.2.2.2.1) p).names=[]:=by intro p;rfl
noncomputable def KA {X:Ctx} {w0:World} (N:Nat) (n:Nat) (h:ZN N n):Sy.Spec Try.prog X w0:=D5 17 Try.call17 V0 (fun p:(Pg)×(List UInt8)×(List Va)×(Sta)×(Int)×Unit=>ZM N n p.1 p.2.1 p.2.2.1 p.2.2.2.1 p.2.2.2.2.1) (fun p:(Pg)×(List UInt8)×(List Va)×(Sta)×(Int)×Unit=>Mf N n p.1 p.2.1 p.2.2.1 p.2.2.2.1 p.2.2.2.2.1) (oG N n) h
attribute [local go_sem] Fa.mem Fa.memO Fa.pan ML.ch ML.ren PR R2 PS KP Tm Tn G5 G4 G6 Dl O2 O1 X7 X6 BU BK chL PQ ID EK EJ GA fcN Tl WL K9 frC IE G3 lmH lmO Fk HH HI Th Q1 Tg Rp Tj Tk mcC IF HG mcW E9 DQ DR Fl vF Lw X9 vE KV X8 nmX pgR Es Eh Dt Du Fo Fm FM FL EN F7 rnC DA Ds DP stR CR EW vrQ IG FO gi oC gk gj oE gm
set_option maxRecDepth 20000 in set_option maxHeartbeats 16000000 in
theorem dY (N:Nat) (n:Nat):ZN N n:=by
 rintro ⟨p,f,va,s,fuel,_u⟩ w fz xs hc hfz hl hx
 refine BH Try.func17 rfl w fz [SZ,Sa,(Uz N n (vB N n))] [(2,[.fold 37 0 8,.fold 37 0 9]),(4,[.unr 37 0 8 1008,.unr 37 0 9 1009])] V0 (fun p:(Pg)×(List UInt8)×(List Va)×(Sta)×(Int)×Unit=>Mf N n p.1 p.2.1 p.2.2.1 p.2.2.2.1 p.2.2.2.2.1) _ xs hfz hl hx (jN rfl) ?_
 clear hx hl hfz xs
 simp only[Try.f17]
 obtain⟨⟨pc,pa⟩,pf⟩:=p
 obtain⟨sc,sa⟩:=s
 obtain⟨hP,hc,ha,hl,hsc,hsa,hva,hfn,hn9⟩:=hc
 dsimp only at hc ha hl hsc hsa
 have hfn:fuel<n:=hfn
 have hfm:=A1J fuel
 have hB:Rq ((⟨⟨pc,pa⟩,pf⟩:Pg),()):=⟨hc,ha,fun x hx=>(hl x hx).2⟩
 have hS:WP ((⟨⟨pc,pa⟩,pf⟩:Pg),⟨sc,sa⟩,()):=⟨hB,fun x hx=>(hl x hx).1,hsc,hsa⟩
 by_cases h1:1≤fuel
 ·have hd:decide (1≤fuel)=true:=decide_eq_true h1
  obtain⟨m,hm⟩:∃m,rnZ (rnA n ⟨⟨pc,pa⟩,pf⟩ f va ⟨mn fuel 1048576,0,stCs pc sc,stA pa sa,2,0,[],0,0⟩)=m:=⟨_,rfl⟩
  have hr:clF n ⟨⟨pc,pa⟩,pf⟩ f va ⟨sc,sa⟩ fuel=m:=by unfold clF;rw[if_pos h1];exact hm
  simp only[↓eB,seval,go_sem,xt,↓A1,hd,hm]
  refine⟨⟨by simp,by simpa using hP.l⟩,⟨rfl,hc⟩,⟨by simp,by simpa using ha⟩,hS,CT (by kernel_rfl),⟨⟨hP,⟨by simp[stCs,blC],by simp[stA,blA],hc,ha⟩,oF pa sa (fun x hx=>(hl x hx).2),by have:=hfm.2.2 h1;show 0≤mn fuel 1048576;omega,by show mn fuel 1048576<(n:Int);omega⟩,hva,hn9⟩,?_⟩
  refine A0 [.fz 1008,.fz 1009] ?_;simp only[↓eB,seval,go_sem,bne,Mf,hr,ouC,XC,XD,XE,XF,zNb,zNa]
 ·have hd:decide (1≤fuel)=false:=decide_eq_false h1
  have hr:clF n ⟨⟨pc,pa⟩,pf⟩ f va ⟨sc,sa⟩ fuel=⟨mn fuel 1048576,0,stCs pc sc,stA pa sa,2,0,[],0,0⟩:=by unfold clF;rw[if_neg h1];rfl
  simp only[↓eB,seval,go_sem,xt,↓A1,hd]
  refine⟨⟨by simp,by simpa using hP.l⟩,⟨rfl,hc⟩,⟨by simp,by simpa using ha⟩,hS,CT (by kernel_rfl),?_⟩
  refine A0 [.fz 1008,.fz 1009] ?_;simp only[↓eB,seval,go_sem,bne,Mf,hr,ouC,XC,XD,XE,XF,zNb,zNa]
end Go.Proofs.Ytjnnmindcbgjhaa
