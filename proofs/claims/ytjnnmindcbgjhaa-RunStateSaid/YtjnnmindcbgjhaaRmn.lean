/- A run, walked. No conditions but those in each statement. -/
import Derived.Test.YtjnnmindcbgjhaaRml
import Derived.Test.YtjnnmindcbgjhaaRmi
import Derived.Test.YtjnnmindcbgjhaaPgm
import Derived.Test.YtjnnmindcbgjhaaRows
import Derived.Test.YtjnnmindcbgjhaaOp
import Derived.Lib.SmallJoins
import Derived.Carry
set_option linter.unusedVariables false
set_option linter.unusedSimpArgs false
set_option maxRecDepth 20000
set_option maxHeartbeats 32000000
namespace Go.Proofs.Ytjnnmindcbgjhaa
open Go Go.Sy Go.RowKit
section
variable {X:Ctx} {w0:World}
noncomputable def bF:Sy.Spec Try.prog X w0:=Di 31 Try.call31 (Dc 32 mPg) Wk (fun _=>false) V9 M_C1 (fun _=>mlO [none])
 (fun p _ _=>⟨rfl,rfl,rfl,RC _ (PP p.2)⟩) (fun a _ h=>by cases h) (fun a _ h=>by cases h) (fun _=>rfl) dy
noncomputable def bG:Sy.Spec Try.prog X w0:=Di 31 Try.call31 (Dc 33 mPg) Wl (fun _=>false) VA VB (fun _=>mlO [none])
 (fun p _ _=>⟨rfl,rfl,rfl,RC _ (PP p.2)⟩) (fun a _ h=>by cases h) (fun a _ h=>by cases h) (fun _=>rfl) dz
noncomputable def bH:Sy.Spec Try.prog X w0:=Di 31 Try.call31 (Dc 34 mPg) Wm (fun _=>false) VC M_C3 (fun _=>mlO [none])
 (fun p _ _=>⟨rfl,rfl,rfl,RC _ (PP p.2)⟩) (fun a _ h=>by cases h) (fun a _ h=>by cases h) (fun _=>rfl) eA
noncomputable def bI:Sy.Spec Try.prog X w0:=VH (MZ 33) bG bH rfl
noncomputable def W5:Sy.Spec Try.prog X w0:=VH (MZ 32) bF bI rfl
theorem eL (t:Nat) (args:List SV) (H:Hp):(W5 (X:=X) (w0:=w0)).fn t args H=if MZ 32 args=true then spL X ((Dc 32 mPg).d H args) t H Wk (fun _=>false) V9 M_C1 (fun _=>mlO [none])
 else if MZ 33 args=true then spL X ((Dc 33 mPg).d H args) t H Wl (fun _=>false) VA VB (fun _=>mlO [none]) else spL X ((Dc 34 mPg).d H args) t H Wm (fun _=>false) VC M_C3 (fun _=>mlO [none]):=rfl
theorem bJ {F:FuncId} {t:Nat} {args:List SV} {H:Hp} {Cd:Int×Pg→Prop} {R:Int×Pg→SV} {M:Int×Pg→List (Option ML)} {pan:Int×Pg→List (Option ML)} {c:Prop} {e:Eff} {fp:List Nat} (hR:∀q,Kw (R q)=true∧(R q).names=[]∧∃y,R q= .one (.d y)) (hM:∀q,M q=[some (.vec zPg [pgR q.2])])
  (h:spL X ((Dc F mPg).d H args) t H Cd (fun _=>false) R M pan=some (c,e,fp)):XW H e.upd∧Kw e.val=true∧e.val.names=[]:=by
 cases hd:(Dc F mPg).d H args with
 |none=>rw[hd]at h;cases hf:H (fcN t)<;>cases hg:H (t+600000)<;>(simp only[spL]at h;cases h)
 |some p=>
  obtain⟨⟨n,b⟩,ks⟩:=p
  obtain⟨k,u,z,rfl,rfl,h1,hz,hz0⟩:=XS hd
  rw[hd,DA]at h
  split at h
  case h_2=>cases h
  rename_i hf _
  simp only[jS,jP]at h
  obtain⟨_,rfl,_⟩:=h
  obtain⟨g1,g2,y,g3⟩:=hR (n,b)
  have hv:EP H [k] t (R (n,b))=R (n,b):=by rw[g3];rfl
  refine⟨?_,by rw[hv];exact g1,by rw[hv];exact g2⟩
  rw[hM]
  intro k2 ch hk2
  have hne:k2≠fcN t:=by rintro rfl;rw[hf]at hk2;cases hk2
  by_cases e:k2=k
  ·subst e
   rw[h1]at hk2
   simp only[jS]at hk2
   subst hk2
   refine .inr ⟨u,u+1,z,zPg,[mPg.e b],rfl,?_,ia (fun c hc=>?_),hz,hz0⟩
   ·simp only[CS,Ea,List.append_nil,List.cons_append,List.nil_append,updH,upd,h1,Option.map_some,Dm,if_true]
    congr 2
    simp only[ML.ren,List.map_cons,List.map_nil,QB]
    rw[Dq fun c hc=>Eh (PP b c hc)]
    exact if_neg hne
   ·simp only[QB,pgR,List.mem_cons,List.not_mem_nil,or_false]at hc
    rcases hc with rfl|rfl|rfl<;>exact⟨rfl,rfl⟩
  ·left
   simp only[CS,Ea,List.append_nil,List.cons_append,List.nil_append,updH,upd,if_neg e,if_neg hne]
   exact hk2
noncomputable def Sq:Sy.Spec Try.prog X w0:=wJ W5 (fun t args H c e fp h _ _=>by
 rw[eL]at h
 split at h
 ·exact bJ (fun q=>⟨rfl,rfl,_,rfl⟩) (fun q=>rfl) h
 ·split at h
  ·exact bJ (fun q=>⟨rfl,rfl,_,rfl⟩) (fun q=>rfl) h
  ·exact bJ (fun q=>⟨rfl,rfl,_,rfl⟩) (fun q=>rfl) h)
theorem ie:(Sq (X:=X) (w0:=w0)).f=31:=rfl
theorem ig (t:Nat) (args:List SV) (H:Hp):(Sq (X:=X) (w0:=w0)).fn t args H=match (if MZ 32 args=true then spL X ((Dc 32 mPg).d H args) t H Wk (fun _=>false) V9 M_C1 (fun _=>mlO [none])
 else if MZ 33 args=true then spL X ((Dc 33 mPg).d H args) t H Wl (fun _=>false) VA VB (fun _=>mlO [none]) else spL X ((Dc 34 mPg).d H args) t H Wm (fun _=>false) VC M_C3 (fun _=>mlO [none])) with
  |some (c,e,fp)=>some (c,⟨e.val,[]⟩,fp)
  |none=>none:=rfl
noncomputable def Sr:Sy.Spec Try.prog X w0:=Di 35 Try.call35 Nl Wn (fun _=>false) XV M_st (fun _=>mlO [])
 (fun p _ _=>⟨rfl,rfl,rfl,eF [] _ _⟩) (fun a _ h=>by cases h) (fun a _ h=>by cases h) (fun _=>rfl) pX
theorem ii:(Sr (X:=X) (w0:=w0)).f=35:=rfl
theorem ij (t:Nat) (args:List SV) (H:Hp):(Sr (X:=X) (w0:=w0)).fn t args H=spL X (Nl.d H args) t H Wn (fun _=>false) XV M_st (fun _=>mlO []):=rfl
noncomputable def VJ (N n:Nat) (h:Bt Try.prog 36 (IA.args 0) IA.mem (Wo N n) (fun _=>.tup []) (VI n)):Sy.Spec Try.prog X w0:=
 Ca 36 Try.call36 IA (Wo N n) (fun _=>.tup []) (VI n) (fun _ _=>rfl) (fun _ _=>rfl) (fun _ _=>PM _ _) h
theorem pb (N n:Nat) (h):(VJ (X:=X) (w0:=w0) N n h).f=36:=rfl
theorem pd (N n:Nat) (h) (t:Nat) (args:List SV) (H:Hp):(VJ (X:=X) (w0:=w0) N n h).fn t args H=spM (IA.d H args) t H (Wo N n) (fun _=>.tup []) (VI n):=rfl
end
theorem wK (l:List Nb):((l.map Nb.c).all fun r=>r.all fun c=>c.names.isEmpty)=true:=by
 rw[List.all_eq_true]
 intro r hr
 obtain⟨a,_,rfl⟩:=List.mem_map.1 hr
 rfl
theorem wL (l:List Na):((l.map Na.c).all fun r=>r.all fun c=>c.names.isEmpty)=true:=by
 rw[List.all_eq_true]
 intro r hr
 obtain⟨a,_,rfl⟩:=List.mem_map.1 hr
 rfl
theorem XX (l:List Nb):D3 (l.map Nb.c)=some (l.map Nb.r):=FM Nb.c (fun _=>rfl) l
theorem wM (l:List Int):D3 (l.map cI)=some (l.map iD):=FM cI (fun _=>rfl) l
theorem XY (l:List Na):D3 (l.map Na.c)=some (l.map Na.r):=FM Na.c (fun x=>by
 simp only[Na.c,Ew,toD,zI,wM,Na.r]) l
theorem XZ (k:Nat) (z:List D) (e:List (List D)) (l:List Nb):(l.map Nb.c).map (fun r=>r.map (fzC k z e))=l.map Nb.c:=G4 Nb.c (fun _=>rfl) l
theorem Xa (k:Nat) (z:List D) (e:List (List D)) (l:List Na):(l.map Na.c).map (fun r=>r.map (fzC k z e))=l.map Na.c:=G4 Na.c (fun _=>rfl) l
def ms0 (P:Pg) (s:Sta) (fuel:Int):Ms:=⟨mn fuel 1048576,0,stCs P.g.c s.cs,stA P.g.a s.ar,2,0,[],0,0⟩
def clF (n:Nat) (P:Pg) (f:List UInt8) (va:List Va) (s:Sta) (fuel:Int):Ms:=if 1≤fuel then rnZ (rnA n P f va (ms0 P s fuel)) else ms0 P s fuel
def ouC (m:Ms):List C:=[.v (.int .i64 m.e),.v (.int .i64 m.v),.v (.string (bs m.f)),.v (.int .i64 m.al),.v (.int .i64 m.k),.d (.sl G6 (m.cs.map Nb.r)),.d (.sl G7 (m.ar.map Na.r))]
structure okR (N n:Nat) (P:Pg) (va:List Va) (s:Sta) (fuel:Int):Prop where
 p:okPg N P
 c:P.g.c.length≤1000000
 a:P.g.a.length≤1000000
 l:∀x∈P.g.a,1≤x.n∧x.n≤1048576
 sc:s.cs.length≤1000000
 sa:s.ar.length≤1000000
 v:va.length≤5000
 f:fuel<n
 n:n≤1000000000
theorem Zg (p:List Gy) (s:List Na) (h:∀x∈p,x.n≤1048576):∀x∈stA p s,x.l.length≤1000000000:=by
 intro x hx
 obtain⟨y,hy,rfl⟩:=List.mem_map.1 hx
 obtain⟨g,hg,rfl⟩:=List.mem_map.1 hy
 have:=h g hg
 unfold MO
 split
 ·dsimp only;rw[pU];simp;omega
 ·simp;omega
theorem A1j (x:Int):mn x 1048576≤x∧mn x 1048576≤1048576∧(1≤x→1≤mn x 1048576):=by unfold mn;split<;>omega
abbrev Zh (N:Nat) (n:Nat) (p:Pg) (f:List UInt8) (va:List Va) (s:Sta) (fuel:Int):Prop:=okR N n p va s fuel
abbrev Mu (N:Nat) (n:Nat) (p:Pg) (f:List UInt8) (va:List Va) (s:Sta) (fuel:Int):SV:=.agg (ouC (clF n p f va s fuel))
noncomputable abbrev VK:ArgC ((Pg)×(List UInt8)×(List Va)×(Sta)×(Int)×Unit):=(acS (cPg) (acS (cStr) (acS (OT) (acS (cSta) (acS (cInt .i64) ac0)))))
abbrev Zi (N:Nat) (n:Nat):Prop:=CY Try.prog 17 VK (fun p:(Pg)×(List UInt8)×(List Va)×(Sta)×(Int)×Unit=>Zh N n p.1 p.2.1 p.2.2.1 p.2.2.2.1 p.2.2.2.2.1) (fun p:(Pg)×(List UInt8)×(List Va)×(Sta)×(Int)×Unit=>Mu N n p.1 p.2.1 p.2.2.1 p.2.2.2.1 p.2.2.2.2.1)
theorem pe (N:Nat) (n:Nat):∀p:(Pg)×(List UInt8)×(List Va)×(Sta)×(Int)×Unit,((fun p:(Pg)×(List UInt8)×(List Va)×(Sta)×(Int)×Unit=>Mu N n p.1 p.2.1 p.2.2.1 p.2.2.2.1 p.2.2.2.2.1) p).names=[]:=by intro p;rfl
noncomputable def Zj {X:Ctx} {w0:World} (N:Nat) (n:Nat) (h:Zi N n):Sy.Spec Try.prog X w0:=D4 17 Try.call17 VK (fun p:(Pg)×(List UInt8)×(List Va)×(Sta)×(Int)×Unit=>Zh N n p.1 p.2.1 p.2.2.1 p.2.2.2.1 p.2.2.2.2.1) (fun p:(Pg)×(List UInt8)×(List Va)×(Sta)×(Int)×Unit=>Mu N n p.1 p.2.1 p.2.2.1 p.2.2.2.1 p.2.2.2.2.1) (pe N n) h
attribute [local go_sem] Fa.mem Fa.memO Fa.pan ML.ch ML.ren PX RB PY Kb U1 U2 GG GF GH Dm QD QC Nk PZ BG BI chL PW IW EM EL GM fcN U0 Wj KJ frC IX GE lmH lmO Fv HW HX Tw QB Tv S2 Ty Tz mcC IY HV mcW EA DR DS Fw wL Ki XU wK Ja XT nmX pgR Et Ei Dt Du Fz Fy FO FN EP F9 rnC DA Ds DQ stR CS Ea vrQ IZ FR ie pb ii ig pd ij
theorem eM (N:Nat) (n:Nat):Zi N n:=by
 rintro ⟨p,f,va,s,fuel,_u⟩ w fz xs hc hfz hl hx
 refine BZ Try.func17 rfl w fz [Sq,Sr,(VJ N n (wH N n))] [(2,[.fold 37 0 8,.fold 37 0 9]),(4,[.unr 37 0 8 1008,.unr 37 0 9 1009])] VK (fun p:(Pg)×(List UInt8)×(List Va)×(Sta)×(Int)×Unit=>Mu N n p.1 p.2.1 p.2.2.1 p.2.2.2.1 p.2.2.2.2.1) _ xs hfz hl hx (jN rfl) ?_
 clear hx hl hfz xs
 simp only[Try.f17]
 obtain⟨⟨pc,pa⟩,pf⟩:=p
 obtain⟨sc,sa⟩:=s
 obtain⟨hP,hc,ha,hl,hsc,hsa,hva,hfn,hn9⟩:=hc
 dsimp only at hc ha hl hsc hsa
 have hfn:fuel<n:=hfn
 have hfm:=A1j fuel
 have hB:U4 ((⟨⟨pc,pa⟩,pf⟩:Pg),()):=⟨hc,ha,fun x hx=>(hl x hx).2⟩
 have hS:Wn ((⟨⟨pc,pa⟩,pf⟩:Pg),⟨sc,sa⟩,()):=⟨hB,fun x hx=>(hl x hx).1,hsc,hsa⟩
 by_cases h1:1≤fuel
 ·have hd:decide (1≤fuel)=true:=decide_eq_true h1
  obtain⟨m,hm⟩:∃m,rnZ (rnA n ⟨⟨pc,pa⟩,pf⟩ f va ⟨mn fuel 1048576,0,stCs pc sc,stA pa sa,2,0,[],0,0⟩)=m:=⟨_,rfl⟩
  have hr:clF n ⟨⟨pc,pa⟩,pf⟩ f va ⟨sc,sa⟩ fuel=m:=by unfold clF;rw[if_pos h1];exact hm
  simp only[↓eB,seval,go_sem,xt,↓A1,hd,hm]
  refine⟨⟨by simp,by simpa using hP.l⟩,⟨rfl,hc⟩,⟨by simp,by simpa using ha⟩,hS,C7 (by kernel_rfl),⟨⟨hP,⟨by simp[stCs,blC],by simp[stA,blA],hc,ha⟩,Zg pa sa (fun x hx=>(hl x hx).2),by have:=hfm.2.2 h1;show 0≤mn fuel 1048576;omega,by show mn fuel 1048576<(n:Int);omega⟩,hva,hn9⟩,?_⟩
  refine A0 [.fz 1008,.fz 1009] ?_;simp only[↓eB,seval,go_sem,bne,Mu,hr,ouC,XX,XY,XZ,Xa,zNb,zNa]
 ·have hd:decide (1≤fuel)=false:=decide_eq_false h1
  have hr:clF n ⟨⟨pc,pa⟩,pf⟩ f va ⟨sc,sa⟩ fuel=⟨mn fuel 1048576,0,stCs pc sc,stA pa sa,2,0,[],0,0⟩:=by unfold clF;rw[if_neg h1];rfl
  simp only[↓eB,seval,go_sem,xt,↓A1,hd]
  refine⟨⟨by simp,by simpa using hP.l⟩,⟨rfl,hc⟩,⟨by simp,by simpa using ha⟩,hS,C7 (by kernel_rfl),?_⟩
  refine A0 [.fz 1008,.fz 1009] ?_;simp only[↓eB,seval,go_sem,bne,Mu,hr,ouC,XX,XY,XZ,Xa,zNb,zNa]
end Go.Proofs.Ytjnnmindcbgjhaa
namespace Go.Proofs.Ytjnnmindcbgjhaa
open Go Go.Sy Go.RowKit
abbrev bK (n:Int):Prop := -9223372036854775808≤n∧n≤9223372036854775807
abbrev u8R (n:Int):Prop:=0≤n∧n≤255
def ik (n:Nat) (s:Sm):Bool:=decide (s.e.dp<n)&&decide (s.f.dp<n)&&decide (s.cd.dp<n)&&s.ar.all (fun a=>decide (a.e.dp<n))&&decide (s.ar.length≤5000)
theorem pg {n:Nat} {s:Sm} (h:ik n s=true):OkS n s:=by
 simp only[ik,Bool.and_eq_true,decide_eq_true_eq,List.all_eq_true]at h
 exact⟨h.1.1.1.1,h.1.1.1.2,h.1.1.2,h.1.2,h.2⟩
def VL (n:Nat):Nat→List Sm→Bool
 |0,_=>false
 |m+1,l=>decide (l.length≤5000)&&l.all fun s=>ik n s&&VL n m s.th&&VL n m s.el
theorem S6 {n:Nat}:∀{m:Nat} {l:List Sm},VL n m l=true→okB n m l
 |0,l,h=>by cases h
 |m+1,l,h=>by
  simp only[VL,Bool.and_eq_true,decide_eq_true_eq,List.all_eq_true]at h
  exact⟨h.1,fun s hs=>⟨pg (h.2 s hs).1.1,S6 (h.2 s hs).1.2,S6 (h.2 s hs).2⟩⟩
def bL (f:Fn):Bool:=decide (f.ps.length≤5000)&&decide (f.ls.length≤5000)
theorem Zk {f:Fn} (h:bL f=true):okF f:=by
 simp only[bL,Bool.and_eq_true,decide_eq_true_eq]at h;exact h
def wN (N M:Nat) (P:Pg):Bool:=decide (P.fs.length≤1000000)&&P.fs.all fun f=>bL f&&VL N M f.body
theorem ph {N M:Nat} {P:Pg} (h:wN N M P=true):okPg N P:=by
 simp only[wN,Bool.and_eq_true,decide_eq_true_eq,List.all_eq_true]at h
 exact⟨h.1,fun f hf=>⟨Zk (h.2 f hf).1,M,S6 (h.2 f hf).2⟩⟩
theorem wO {n m:Nat} {gl:List UInt8→List Gi} {s t:List UInt8} (h1:(s==gloB)=false) (h2:Ct t) (h3:(bL (FV t).1&&VL n m (FV t).1.body)=true):okUn n m gl ⟨s,t⟩:=by
 simp only[Bool.and_eq_true]at h3
 exact⟨fun h=>(by rw[h1]at h;cases h),fun _=>h2,fun _=>Zk h3.1,fun _=>S6 h3.2⟩
theorem eO {n m:Nat} {gl:List UInt8→List Gi} {t:List UInt8} (h1:glO t (gl t)) (h2:Rc (giV (gl t)).ns) (h3:(giV (gl t)).c.length≤5000) (h4:(giV (gl t)).a.length≤5000):okUn n m gl ⟨gloB,t⟩:=by
 have hb:(gloB==gloB)=true:=by decide
 exact⟨fun _=>⟨h1,h2,h3,h4⟩,fun h=>(by rw[hb]at h;cases h),fun h=>(by rw[hb]at h;cases h),fun h=>(by rw[hb]at h;cases h)⟩
theorem Mv {l:List (List UInt8)} (h:l.Nodup):Rc l:=by
 intro i j hj hi
 have hjl:j<l.length:=by omega
 simp only[List.getD,List.getElem?_eq_getElem hi,List.getElem?_eq_getElem hjl,Option.getD_some]
 have:=List.pairwise_iff_getElem.1 h j i hjl hi hj
 simpa using this
theorem wP (s t:List UInt8):mUn.d [.v (.string (bs s)),.v (.string (bs t))]=some ⟨s,t⟩:=Hc ZH ⟨s,t⟩
theorem eP:cSta.d (.agg [.v (.slice none 0 0),.v (.slice none 0 0)])=some ⟨[],[]⟩:=D9 (e:=fun p:Sta=>.agg (stR p)) (a:=⟨[],[]⟩) ⟨.inr ⟨rfl,rfl⟩,.inr ⟨rfl,rfl⟩,trivial⟩
theorem eQ:OT.d (.one (.v (.slice none 0 0)))=some []:=D9 (e:=fun l:List Va=>.one (.d (.sl Ka (l.map Va.r)))) (a:=[]) (.inr ⟨rfl,rfl⟩)
theorem pi (p:Bool) (n:Int) (s:List UInt8):OT.d (.one (.d (.sl [.v (.bool false),.v (.int .i64 0),.v (.string (bs []))] [[.v (.bool p),.v (.int .i64 n),.v (.string (bs s))]])))=some [⟨p,n,s⟩]:=BG [⟨p,n,s⟩]
theorem pj (p p':Bool) (n n':Int) (s s':List UInt8):OT.d (.one (.d (.sl [.v (.bool false),.v (.int .i64 0),.v (.string (bs []))] [[.v (.bool p),.v (.int .i64 n),.v (.string (bs s))],[.v (.bool p'),.v (.int .i64 n'),.v (.string (bs s'))]])))=some [⟨p,n,s⟩,⟨p',n',s'⟩]:=BG [⟨p,n,s⟩,⟨p',n',s'⟩]
def kT:List UInt8:=[102,110,32,102,40,120,41,32,123,32,99,32,61,32,120,59,32,114,101,116,117,114,110,32,49,32,47,32,120,59,32,125]
def kG:List UInt8:=[99,101,108,108,32,99,59]
def kgl:List UInt8→List Gi:=fun _=>[.c [99]]
def kP:Pg:=⟨⟨[[99]],[]⟩,[⟨[102],[⟨[120],false⟩],[],[(.mk 0 [99] [] (.mk 1 0 [120] .nil .nil) .nil .nil [] [] [] 0),(.mk 9 [] [] (.mk 5 0 [] (.mk 0 1 [] .nil .nil) (.mk 1 0 [120] .nil .nil)) .nil .nil [] [] [] 1)]⟩]⟩
theorem A6X:prF 8 kgl [⟨[102],kT⟩,⟨gloB,kG⟩]=kP:=by kernel_rfl
theorem A6Y:∀u∈[(⟨[102],kT⟩:Un),⟨gloB,kG⟩],okUn 50 8 kgl u:=by
 intro u hu
 simp only[List.mem_cons,List.not_mem_nil,or_false]at hu
 rcases hu with rfl|rfl
 ·exact wO (by decide) (by have e:kT.length=32:=rfl;unfold Ct;omega) (by kernel_rfl)
 ·refine eO ⟨by have e:kG.length=7:=rfl;unfold Ct;omega,?_,by decide,_,(by kernel_rfl:rxT kG=([⟨0,[99,101,108,108],0⟩,⟨0,[99],5⟩,⟨2,[59],6⟩],0,0)),rfl⟩ (Mv (by decide)) (by decide) (by decide)
  intro g hg
  simp only[kgl,List.mem_singleton]at hg
  subst hg
  exact MX _ (by decide)
theorem A6Z (va:List Va) (f:Int) (hv:va.length≤5000) (hf:f<10):okR 50 10 kP va ⟨[],[]⟩ f:=⟨ph (M:=8) (by kernel_rfl),by decide,by decide,(by intro x hx;cases hx),by decide,by decide,hv,hf,by decide⟩
theorem kPb:(blC kP.g.c).length=1:=rfl
theorem A6a:clF 10 kP [102] [⟨false,0,[]⟩] ⟨[],[]⟩ 9=⟨7,1,[⟨[99],0⟩],[],1,0,[102],1,0⟩:=by kernel_rfl
theorem A6b:clF 10 kP [102] [⟨false,1,[]⟩] ⟨[],[]⟩ 9=⟨7,0,[⟨[99],1⟩],[],0,1,[],0,0⟩:=by kernel_rfl
theorem A6c:clF 10 kP [103] [] ⟨[],[]⟩ 9=⟨9,0,[⟨[99],0⟩],[],1,0,[103],-1,4⟩:=by kernel_rfl
abbrev U7:Prop:=True
abbrev Dl:SV:=.one (.v (.bool true))
noncomputable abbrev QH:ArgC (Unit):=ac0
abbrev bM:Prop:=CY Try.prog 11 QH (fun p:Unit=>U7 ) (fun p:Unit=>Dl )
theorem bN:∀p:Unit,((fun p:Unit=>Dl ) p).names=[]:=by intro p;rfl
theorem eR:bM:=by
 rintro ⟨_u⟩ w fz xs hc hfz hl hx
 refine BZ Try.func11 rfl w fz [(Rp 50 8 kgl (y_Prog 50 8 kgl)),(Zj 50 10 (eM 50 10)),Lh] [(2,[.flag 12]),(3,[.flag 17])] QH (fun p:Unit=>Dl ) _ xs hfz hl hx (jN rfl) ?_
 clear hx hl hfz xs
 simp only[Try.f11]
 have hg:gloB=[103,108,111,98,97,108,115]:=rfl
 have he:=A6X
 have hu:=A6Y
 have hr:=A6Z
 rw[hg]at he hu
 simp only[kT,kG]at he hu
 simp only[↓eB,seval,go_sem,Rp,Zj,KU,KT,wP,Un.c,pqR,zUc,QC,QD,PZ,Nk,eP,BI,BG,eQ,pi,pj,pgR,stR,ouC,RB,PX,PY,PW,lmH,lmO,chL,ML.ch,DR,DS,EA,CS,Ea,nmX,xt,Dm,ML.ren,rnC,EP,F9,vrQ,DA,fcN,↓A1,Ir,It,VG,M_Bl,XT,XU,Ja,Ki,he,A6a,A6b,A6c,Et,kPb,Nb.r]
 refine⟨⟨jN rfl,hu⟩,hr _ 9 (jN rfl) (by decide),hr _ 9 (jN rfl) (by decide),hr _ 9 (jN rfl) (by decide),⟨by decide,by decide,(by intro x hx;cases hx)⟩,?_⟩
 refine A0 [] ?_;simp only[↓eB,seval,go_sem,bne,Dl]
noncomputable def FX {X:Ctx} {w0:World}:Sy.Spec Try.prog X w0:=D4 11 Try.call11 QH (fun p:Unit=>U7 ) (fun p:Unit=>Dl ) bN eR
end Go.Proofs.Ytjnnmindcbgjhaa
namespace Go.Proofs.Ytjnnmindcbgjhaa
open Go Go.Sy Go.RowKit Go.ChangeShapes Go.WideShapes Go.ChangeAt
theorem A6d:ownKnob Try.prog.godebug=none:=by kernel_rfl
theorem A1k:laidOutB Try.prog=true:=by kernel_rfl
theorem Qh {H:Type} {enc:TypeId×Value→H} {P:Program} (hl:laidOutB P=true) {W W':World} (hb:Below W.heap.size W W'):∀(ts:List TypeId) (vs:List Value) (ds:List (DataW H)) (ps:List MemPlace),
  (∀t∈ts,P.readableRec t=true∧t<P.types.size)→DataW.TrodAll enc P W 0 (fun _=>true) true ts vs ds ps→(∀x∈ps,x.block<W.heap.size)→DataW.TrodAll enc P W' 0 (fun b=>decide (b<W.heap.size)) true ts vs ds ps
 |[],vs,ds,ps,_,h,_=>by
  obtain⟨rfl,rfl,rfl⟩:=trodAll_nil h
  exact trodAll_mk0
 |t::ts,vs,ds,ps,hts,h,hlt=>by
  obtain⟨v,vs',d,ds',p,q,rfl,rfl,rfl,h1,h2⟩:=trodAll_cons h
  have ht:=hts t (List.mem_cons_self ..)
  exact trodAll_cons_mk (Below.trod hl ht.1 ht.2 h1 hb fun x hx=>hlt x (List.mem_append_left _ hx))
   (Qh hl hb ts vs' ds' q (fun t' ht'=>hts t' (List.mem_cons_of_mem _ ht')) h2 fun x hx=>hlt x (List.mem_append_right _ hx))
theorem il {H:Type} {enc:TypeId×Value→H} {f:Func} {s:ChangeSpec} {W W':World} {args:Array Value} {ds gs:List (DataW H)} {before:List MemPlace} (hW:DataW.Whole enc Try.prog f.params.toList s.vars false W args.toList ds gs before)
  (hv:s.vars=[]) (hr:f.resultTypes = #[4]) (hts:∀t∈f.params.toList,Try.prog.readableRec t=true∧t<Try.prog.types.size)
  (hf:gs=[]→(s.fn H (ds++gs)).results=[.lit (.bool true)]∧(s.fn H (ds++gs)).args=ds∧(s.fn H (ds++gs)).vars=[]) (hb:Below W.heap.size W W') :
  s.post enc Try.prog f false true false false W args (.bool true) W':=by
 have hlt:=hW.lt
 have hW0:=hW
 obtain⟨p,q,hA,hV,rfl,_,_⟩:=hW
 rw[hv]at hV
 obtain⟨rfl,rfl⟩:=trodVars_none hV
 obtain⟨f1,f2,f3⟩:=hf rfl
 refine⟨ds,[],p++[],[],p,[],hW0,?_,?_,?_,hb.frame _,fun h=>by cases h⟩
 ·rw[f1,hr]
  exact trodAll_cons_mk (shut_bool Try.underlying4 true) trodAll_mk0
 ·rw[f2]
  exact Qh A1k hb _ _ _ _ hts hA fun x hx=>by simpa using hlt x (List.mem_append_left _ hx)
 ·rw[f3,hv];rfl
theorem eS {P:Program} {f:FuncId} {A:Type} {ac:ArgH A} {Cd:A→Prop} {F:A→SV} (h:MK P f ac Cd F) (a:A) (w:World) (hc:Cd a) (vals:List Value) (val:Value) (hl:vals.length=(ac.e a).length)
  (h1:∀(j:Nat) (v:SV) (x:Value),(ac.e a)[j]?=some v→vals[j]?=some x→CD (hp w) (fun b=>b<w.heap.size) v x)
  (h2:Nv (F a)=some val):Calls P f vals.toArray w (fun e w'=>e= .returned val∧Below w.heap.size w w'):=by
 refine(h a w (fun b=>b<w.heap.size) vals hc (fun _ h=>h) hl h1).mono ?_
 rintro e w' ⟨v,x,fz',rfl,rfl,g1,g2,g3,g4,g5,g6⟩
 rw[Fm g5 h2]
 exact⟨rfl,g6⟩
theorem pk (a:ByteArray):bs a.data.toList=a:=by cases a;simp[bs]
section
variable {H:Type} {enc:TypeId×Value→H} {W:World} {base:Nat} {v:Value} {d:DataW H} {p:List MemPlace}
theorem Zl {n:Int} (h:(Lit.int .i64 n).wf=true):bK n:=by
 have:=bounds_i64 h;unfold bK;omega
theorem eT {n:Int} (h:(Lit.int .u8 n).wf=true):u8R n:=by
 have:=bounds_u8 h;unfold u8R;omega
end
end Go.Proofs.Ytjnnmindcbgjhaa
