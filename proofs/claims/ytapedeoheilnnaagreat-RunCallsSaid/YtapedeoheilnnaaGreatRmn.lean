/- A run, walked. No conditions but those in each statement. -/
import Derived.Test.YtapedeoheilnnaaGreatRml
import Derived.Test.YtapedeoheilnnaaGreatRmi
import Derived.Test.YtapedeoheilnnaaGreatPgm
import Derived.Test.YtapedeoheilnnaaGreatRows
import Derived.Test.YtapedeoheilnnaaGreatOp
import Derived.Lib.SmallJoins
import Derived.Carry
set_option linter.all false
set_option maxRecDepth 20000
set_option maxHeartbeats 32000000
namespace Go.Proofs.YtapedeoheilnnaaGreat
open Go Go.Sy Go.RowKit
theorem ww{P:Prop}(h:P:=by refine A2 [] ?_;simp only[seval,go_sem,iD]):P:=h
variable{i:Nat}
section
variable {X:Ctx}{w0:World}
noncomputable def fq:Sy.Spec Tryz.prog X w0:=Dc 27 Tryz.call27 (Er 28 mPg) ZL (λ_=>false) XQ M_C1 (λ_=>mlO [none])
 (λp _ _=>⟨rfl,rfl,rfl,SO _ (QM p.2)⟩) (λa _ h=>by cases h) (λa _ h=>by cases h) (λ_=>rfl) jk
noncomputable def fr:Sy.Spec Tryz.prog X w0:=Dc 27 Tryz.call27 (Er 29 mPg) ZM (λ_=>false) XR XS (λ_=>mlO [none])
 (λp _ _=>⟨rfl,rfl,rfl,SO _ (QM p.2)⟩) (λa _ h=>by cases h) (λa _ h=>by cases h) (λ_=>rfl) jl
noncomputable def fv:Sy.Spec Tryz.prog X w0:=Dc 27 Tryz.call27 (Er 30 mPg) ZN (λ_=>false) XT M_C3 (λ_=>mlO [none])
 (λp _ _=>⟨rfl,rfl,rfl,SO _ (QM p.2)⟩) (λa _ h=>by cases h) (λa _ h=>by cases h) (λ_=>rfl) jm
noncomputable def fw:Sy.Spec Tryz.prog X w0:=XY (N3 29) fr fv rfl
noncomputable def Ya:Sy.Spec Tryz.prog X w0:=XY (N3 28) fq fw rfl
theorem jt(t:Nat)(args:List SV)(H:Hp):(Ya (X:=X) (w0:=w0)).fn t args H=if N3 28 args=true then spL X ((Er 28 mPg).d H args) t H ZL (λ_=>false) XQ M_C1 (λ_=>mlO [none])
 else if N3 29 args=true then spL X ((Er 29 mPg).d H args) t H ZM (λ_=>false) XR XS (λ_=>mlO [none]) else spL X ((Er 30 mPg).d H args) t H ZN (λ_=>false) XT M_C3 (λ_=>mlO [none]):=rfl
theorem fy{F:FuncId}{t:Nat}{args:List SV}{H:Hp}{Cd:Int×Pg->Prop}{R:Int×Pg->SV}{M:Int×Pg->List (Option ML)}{pan:Int×Pg->List (Option ML)}{c:Prop}{e:Eff}{fp:List Nat}(hR:∀q,LX (R q)=true/\(R q).names=[]/\∃y,R q= .one (.d y))(hM:∀q,M q=[some (.vec zPg [pgR q.2])])
  (h:spL X ((Er F mPg).d H args) t H Cd (λ_=>false) R M pan=some (c,e,fp)):aL H e.upd/\LX e.val=true/\e.val.names=[]:=by
 cases hd:(Er F mPg).d H args with
 |none=>rw[hd]at h;cases hf:H (fcN t)<;>cases hg:H (t+600000)<;>(simp only[spL]at h;cases h)
 |some p=>
  obtain⟨⟨n,b⟩,ks⟩:=p
  obtain⟨k,u,z,rfl,rfl,h1,hz,hz0⟩:=aE hd
  rw[hd,Ci]at h
  split at h
  case h_2=>cases h
  rename_i hf _
  simp only[jS,jP]at h
  obtain⟨_,rfl,_⟩:=h
  obtain⟨g1,g2,y,g3⟩:=hR (n,b)
  have hv:E5 H [k] t (R (n,b))=R (n,b):=by rw[g3];rfl
  refine⟨?_,by rw[hv];exact g1,by rw[hv];exact g2⟩
  rw[hM]
  intro k2 ch hk2
  have hne:k2≠fcN t:=by rintro rfl;rw[hf]at hk2;cases hk2
  by_cases e:k2=k
  .subst e
   rw[h1]at hk2
   simp only[jS]at hk2
   subst hk2
   refine .inr ⟨u,u+1,z,zPg,[mPg.e b],rfl,?_,o7 (λc hc=>?_),hz,hz0⟩
   .simp only[CU,E8,List.append_nil,List.cons_append,List.nil_append,updH,upd,h1,Option.map_some,Di,if_true]
    congr 2
    simp only[ML.ren,List.map_cons,List.map_nil,P4]
    rw[DR λc hc=>F8 (QM b c hc)]
    exact if_neg hne
   .simp only[P4,pgR,List.mem_cons,List.not_mem_nil,or_false]at hc
    rcases hc with rfl|rfl|rfl<;>exact⟨rfl,rfl⟩
  .left
   simp only[CU,E8,List.append_nil,List.cons_append,List.nil_append,updH,upd,if_neg e,if_neg hne]
   exact hk2
noncomputable def Ul:Sy.Spec Tryz.prog X w0:=zu Ya (λt args H c e fp h _ _=>by
 rw[jt]at h
 split at h
 .exact fy (λq=>⟨rfl,rfl,_,rfl⟩) (λq=>rfl) h
 split at h
 .exact fy (λq=>⟨rfl,rfl,_,rfl⟩) (λq=>rfl) h
 exact fy (λq=>⟨rfl,rfl,_,rfl⟩) (λq=>rfl) h)
theorem o8:(Ul (X:=X) (w0:=w0)).f=27:=rfl
theorem o9(t:Nat)(args:List SV)(H:Hp):(Ul (X:=X) (w0:=w0)).fn t args H=match (if N3 28 args=true then spL X ((Er 28 mPg).d H args) t H ZL (λ_=>false) XQ M_C1 (λ_=>mlO [none])
 else if N3 29 args=true then spL X ((Er 29 mPg).d H args) t H ZM (λ_=>false) XR XS (λ_=>mlO [none]) else spL X ((Er 30 mPg).d H args) t H ZN (λ_=>false) XT M_C3 (λ_=>mlO [none])) with
  |some (c,e,fp)=>some (c,⟨e.val,[]⟩,fp)
  |none=>none:=rfl
noncomputable def Um:Sy.Spec Tryz.prog X w0:=Dc 31 Tryz.call31 OK ZP (λ_=>false) PT M_st (λ_=>mlO [])
 (λp _ _=>⟨rfl,rfl,rfl,aK [] _ _⟩) (λa _ h=>by cases h) (λa _ h=>by cases h) (λ_=>rfl) ug
theorem oA:(Um (X:=X) (w0:=w0)).f=31:=rfl
theorem oB(t:Nat)(args:List SV)(H:Hp):(Um (X:=X) (w0:=w0)).fn t args H=spL X (OK.d H args) t H ZP (λ_=>false) PT M_st (λ_=>mlO []):=rfl
noncomputable def Xa(N n:Nat)(h:C7 Tryz.prog 32 (Iv.args 0) Iv.mem (ZQ N n) (λ_=>.tup []) (XZ n)):Sy.Spec Tryz.prog X w0:=
 D0 32 Tryz.call32 Iv (ZQ N n) (λ_=>.tup []) (XZ n) (λ_ _=>rfl) (λ_ _=>rfl) (λ_ _=>QG _ _) h
theorem uj(N n:Nat)(h):(Xa (X:=X) (w0:=w0) N n h).f=32:=rfl
theorem uk(N n:Nat)(h)(t:Nat)(args:List SV)(H:Hp):(Xa (X:=X) (w0:=w0) N n h).fn t args H=spM (Iv.d H args) t H (ZQ N n) (λ_=>.tup []) (XZ n):=rfl
end
theorem ju(l:List Nb):((l.map Nb.c).all λr=>r.all λc=>c.names.isEmpty)=true:=by
 rw[List.all_eq_true]
 intro r hr
 obtain⟨a,_,rfl⟩:=List.mem_map.1 hr
 rfl
theorem jv(l:List Na):((l.map Na.c).all λr=>r.all λc=>c.names.isEmpty)=true:=by
 rw[List.all_eq_true]
 intro r hr
 obtain⟨a,_,rfl⟩:=List.mem_map.1 hr
 rfl
theorem SP(l:List Nb):EZ (l.map Nb.c)=some (l.map Nb.r):=Hi Nb.c (λ_=>rfl) l
theorem zw(l:List Int):EZ (l.map cI)=some (l.map iD):=Hi cI (λ_=>rfl) l
theorem SQ(l:List Na):EZ (l.map Na.c)=some (l.map Na.r):=Hi Na.c (λx=>by
 simp only[Na.c,GD,toD,zI,zw,Na.r]) l
theorem LO(k:Nat)(z:List D)(e:List (List D))(l:List Nb):(l.map Nb.c).map (λr=>r.map (fzC k z e))=l.map Nb.c:=HU Nb.c (λ_=>rfl) l
theorem LP(k:Nat)(z:List D)(e:List (List D))(l:List Na):(l.map Na.c).map (λr=>r.map (fzC k z e))=l.map Na.c:=HU Na.c (λ_=>rfl) l
def ms0(P:Pg)(s:Sta)(fuel:Int):Ms:=⟨mn fuel 1048576,0,stCs P.g.c s.cs,stA P.g.a s.ar,2,0,[],0,0⟩
def clF(n:Nat)(P:Pg)(f:List UInt8)(va:List Va)(s:Sta)(fuel:Int):Ms:=if 1<=fuel then rnZ (rnA n P f va (ms0 P s fuel)) else ms0 P s fuel
def ouC(m:Ms):List C:=[.v (.int .i64 m.e),.v (.int .i64 m.v),.v (.string (bs m.f)),.v (.int .i64 m.al),.v (.int .i64 m.k),.d (.sl Hc (m.cs.map Nb.r)),.d (.sl Hd (m.ar.map Na.r))]
structure okR(N n:Nat)(P:Pg)(va:List Va)(s:Sta)(fuel:Int):Prop where
 p:okPg N P
 c:P.g.c.length<=1000000
 a:P.g.a.length<=1000000
 l:∀x∈P.g.a,1<=x.n/\x.n<=1048576
 sc:s.cs.length<=1000000
 sa:s.ar.length<=1000000
 v:va.length<=5000
 f:fuel<n
 n:n<=1000000000
theorem Xb(p:List Gy)(s:List Na)(h:∀x∈p,x.n<=1048576):∀x∈stA p s,x.l.length<=1000000000:=by
 intro x hx
 obtain⟨y,hy,rfl⟩:=List.mem_map.1 hx
 obtain⟨g,hg,rfl⟩:=List.mem_map.1 hy
 have:=h g hg
 unfold LN
 split
 .dsimp only;rw[ud];simp;omega
 simp;omega
theorem gA(x:Int):mn x 1048576<=x/\mn x 1048576<=1048576/\(1<=x->1<=mn x 1048576):=by unfold mn;split<;>omega
abbrev ul(N:Nat)(n:Nat)(p:Pg)(f:List UInt8)(va:List Va)(s:Sta)(fuel:Int):Prop:=okR N n p va s fuel
abbrev QZ(N:Nat)(n:Nat)(p:Pg)(f:List UInt8)(va:List Va)(s:Sta)(fuel:Int):SV:=.agg (ouC (clF n p f va s fuel))
noncomputable abbrev Xc:ArgC ((Pg)×(List UInt8)×(List Va)×(Sta)×(Int)×Unit):=(acS (cPg) (acS (cStr) (acS (Mr) (acS (cSta) (acS (cInt .i64) ac0)))))
abbrev dv(N:Nat)(n:Nat):Prop:=Ca Tryz.prog 14 Xc (λp:(Pg)×(List UInt8)×(List Va)×(Sta)×(Int)×Unit=>ul N n p.1 p.2.1 p.2.2.1 p.2.2.2.1 p.2.2.2.2.1) (λp:(Pg)×(List UInt8)×(List Va)×(Sta)×(Int)×Unit=>QZ N n p.1 p.2.1 p.2.2.1 p.2.2.2.1 p.2.2.2.2.1)
noncomputable def Tr{X:Ctx}{w0:World}(N:Nat)(n:Nat)(h:dv N n):Sy.Spec Tryz.prog X w0:=Dq 14 Tryz.call14 Xc _ _ KF3 h
section
attribute [local go_sem] Fa.mem Fa.memO Fa.pan ML.ch ML.ren LL OI LM LK Vt Vu H4 Gz H5 Di GM GL MX MW Ae Ad chL MU IJ F6 F5 Gv fcN Vq ZK Ku frC IK Gx lmH lmO Gw IH II Tj P4 Ti Tm Tk Tl mcC IL Hm mcW DH Cj Ck EQ jv G9 SN ju Ez SM nmX pgR Dz Dh D3 D4 ED E9 GW GV E5 EE rnC Ci DS Cu stR CU E8 vrQ IM o8 uj oA o9 uk oB
theorem jw(N:Nat)(n:Nat):dv N n:=by
 rintro ⟨p,f,va,s,fuel,_u⟩ w fz xs hc hfz hl hx
 refine Bg Tryz.func14 rfl w fz [Ul,Um,(Xa N n (zq N n))] [(2,[.fold 37 0 8,.fold 37 0 9]),(4,[.unr 37 0 8 1008,.unr 37 0 9 1009])] Xc (λp:(Pg)×(List UInt8)×(List Va)×(Sta)×(Int)×Unit=>QZ N n p.1 p.2.1 p.2.2.1 p.2.2.2.1 p.2.2.2.2.1) _ xs hfz hl hx (jN rfl) ?_
 clear hx hl hfz xs
 simp only[Tryz.f14]
 obtain⟨⟨pc,pa⟩,pf⟩:=p
 obtain⟨sc,sa⟩:=s
 obtain⟨hP,hc,ha,hl,hsc,hsa,hva,hfn,hn9⟩:=hc
 dsimp only at hc ha hl hsc hsa
 have hfn:fuel<n:=hfn
 have hfm:=gA fuel
 have hB:Vy ((⟨⟨pc,pa⟩,pf⟩:Pg),()):=⟨hc,ha,λx hx=>(hl x hx).2⟩
 have hS:ZP ((⟨⟨pc,pa⟩,pf⟩:Pg),⟨sc,sa⟩,()):=⟨hB,λx hx=>(hl x hx).1,hsc,hsa⟩
 by_cases h1:1<=fuel
 .have hd:decide (1<=fuel)=true:=decide_eq_true h1
  obtain⟨m,hm⟩:∃m,rnZ (rnA n ⟨⟨pc,pa⟩,pf⟩ f va ⟨mn fuel 1048576,0,stCs pc sc,stA pa sa,2,0,[],0,0⟩)=m:=⟨_,rfl⟩
  have hr:clF n ⟨⟨pc,pa⟩,pf⟩ f va ⟨sc,sa⟩ fuel=m:=by unfold clF;rw[if_pos h1];exact hm
  simp only[seval,go_sem,xt,↓A0,hd,hm]
  refine⟨⟨by simp,by simpa using hP.l⟩,⟨rfl,hc⟩,⟨by simp,by simpa using ha⟩,hS,Bn (by kernel_rfl),⟨⟨hP,⟨by simp[stCs,blC],by simp[stA,blA],hc,ha⟩,Xb pa sa (λx hx=>(hl x hx).2),by have:=hfm.2.2 h1;show 0<=mn fuel 1048576;omega,by show mn fuel 1048576<(n:Int);omega⟩,hva,hn9⟩,?_⟩
  refine A1 [.fz 1008,.fz 1009] ?_;simp only[seval,go_sem,bne,QZ,hr,ouC,SP,SQ,LO,LP,zNb,zNa]
 have hd:decide (1<=fuel)=false:=decide_eq_false h1
 have hr:clF n ⟨⟨pc,pa⟩,pf⟩ f va ⟨sc,sa⟩ fuel=⟨mn fuel 1048576,0,stCs pc sc,stA pa sa,2,0,[],0,0⟩:=by unfold clF;rw[if_neg h1];rfl
 simp only[seval,go_sem,xt,↓A0,hd]
 refine⟨⟨by simp,by simpa using hP.l⟩,⟨rfl,hc⟩,⟨by simp,by simpa using ha⟩,hS,Bn (by kernel_rfl),?_⟩
 refine A1 [.fz 1008,.fz 1009] ?_;simp only[seval,go_sem,bne,QZ,hr,ouC,SP,SQ,LO,LP,zNb,zNa]
end
open Go Go.Sy Go.RowKit
abbrev Uo(n:Int):Prop := -9223372036854775808<=n/\n<=9223372036854775807
abbrev u8R(n:Int):Prop:=0<=n/\n<=255
def oC(n:Nat)(s:Sm):Bool:=decide (s.e.dp<n)&&decide (s.f.dp<n)&&decide (s.cd.dp<n)&&s.ar.all (λa=>decide (a.e.dp<n))&&decide (s.ar.length<=5000)
theorem um{n:Nat}{s:Sm}(h:oC n s=true):OkS n s:=by
 simp only[oC,Bool.and_eq_true,decide_eq_true_eq,List.all_eq_true]at h
 exact⟨h.1.1.1.1,h.1.1.1.2,h.1.1.2,h.1.2,h.2⟩
def Xd(n:Nat):Nat->List Sm->Bool
 |0,_=>false
 |m+1,l=>decide (l.length<=5000)&&l.all λs=>oC n s&&Xd n m s.th&&Xd n m s.el
theorem Ts{n:Nat}:∀{m:Nat} {l:List Sm},Xd n m l=true->okB n m l
 |0,l,h=>by cases h
 |m+1,l,h=>by
  simp only[Xd,Bool.and_eq_true,decide_eq_true_eq,List.all_eq_true]at h
  exact⟨h.1,λs hs=>⟨um (h.2 s hs).1.1,Ts (h.2 s hs).1.2,Ts (h.2 s hs).2⟩⟩
def gC(f:Fn):Bool:=decide (f.ps.length<=5000)&&decide (f.ls.length<=5000)
theorem dw{f:Fn}(h:gC f=true):okF f:=by
 simp only[gC,Bool.and_eq_true,decide_eq_true_eq]at h;exact h
def zx(N M:Nat)(P:Pg):Bool:=decide (P.fs.length<=1000000)&&P.fs.all λf=>gC f&&Xd N M f.body
theorem uo{N M:Nat}{P:Pg}(h:zx N M P=true):okPg N P:=by
 simp only[zx,Bool.and_eq_true,decide_eq_true_eq,List.all_eq_true]at h
 exact⟨h.1,λf hf=>⟨dw (h.2 f hf).1,M,Ts (h.2 f hf).2⟩⟩
theorem zy{n m:Nat}{gl:List UInt8->List Gi}{s t:List UInt8}(h1:(s==gloB)=false)(h2:E1 t)(h3:(gC (Fp t).1&&Xd n m (Fp t).1.body)=true):okUn n m gl ⟨s,t⟩:=by
 simp only[Bool.and_eq_true]at h3
 exact⟨λh=>(by rw[h1]at h;cases h),λ_=>h2,λ_=>dw h3.1,λ_=>Ts h3.2⟩
theorem jx{n m:Nat}{gl:List UInt8->List Gi}{t:List UInt8}(h1:glO t (gl t))(h2:TT (giV (gl t)).ns)(h3:(giV (gl t)).c.length<=5000)(h4:(giV (gl t)).a.length<=5000):okUn n m gl ⟨gloB,t⟩:=by
 have hb:(gloB==gloB)=true:=by decide
 exact⟨λ_=>⟨h1,h2,h3,h4⟩,λh=>(by rw[hb]at h;cases h),λh=>(by rw[hb]at h;cases h),λh=>(by rw[hb]at h;cases h)⟩
theorem Ni{l:List (List UInt8)}(h:l.Nodup):TT l:=by
 intro i j hj hi
 have hjl:j<l.length:=by omega
 simp only[List.getD,List.getElem?_eq_getElem hi,List.getElem?_eq_getElem hjl,Option.getD_some]
 have:=List.pairwise_iff_getElem.1 h j i hjl hi hj
 simpa using this
theorem A00(s t:List UInt8):mUn.d [.v (.string (bs s)),.v (.string (bs t))]=some ⟨s,t⟩:=JG dO ⟨s,t⟩
theorem jy:cSta.d (.agg [.v (.slice none 0 0),.v (.slice none 0 0)])=some ⟨[],[]⟩:=E4 (e:=λp:Sta=>.agg (stR p)) (a:=⟨[],[]⟩) ⟨.inr ⟨rfl,rfl⟩,.inr ⟨rfl,rfl⟩,trivial⟩
theorem jz:Mr.d (.one (.v (.slice none 0 0)))=some []:=E4 (e:=λl:List Va=>.one (.d (.sl IQ (l.map Va.r)))) (a:=[]) (.inr ⟨rfl,rfl⟩)
theorem ur(p:Bool)(n:Int)(s:List UInt8):Mr.d (.one (.d (.sl [.v (.bool false),.v (.int .i64 0),.v (.string (bs []))] [[.v (.bool p),.v (.int .i64 n),.v (.string (bs s))]])))=some [⟨p,n,s⟩]:=Ae [⟨p,n,s⟩]
def kT:List UInt8:=[102,110,32,102,40,120,41,32,123,32,99,32,61,32,120,59,32,114,101,116,117,114,110,32,49,32,47,32,120,59,32,125]
def kG:List UInt8:=[99,101,108,108,32,99,59]
def kgl:List UInt8->List Gi:=λ_=>[.c [99]]
def kP:Pg:=⟨⟨[[99]],[]⟩,[⟨[102],[⟨[120],false⟩],[],[(.mk 0 [99] [] (.mk 1 0 [120] .nil .nil) .nil .nil [] [] [] 0),(.mk 9 [] [] (.mk 5 0 [] (.mk 0 1 [] .nil .nil) (.mk 1 0 [120] .nil .nil)) .nil .nil [] [] [] 1)]⟩]⟩
theorem A7k:prF 8 kgl [⟨[102],kT⟩,⟨gloB,kG⟩]=kP:=by kernel_rfl
theorem A7l:∀u∈[(⟨[102],kT⟩:Un),⟨gloB,kG⟩],okUn 50 8 kgl u:=by
 intro u hu
 simp only[List.mem_cons,List.not_mem_nil,or_false]at hu
 rcases hu with rfl|rfl
 .exact zy (by decide) (by have e:kT.length=32:=rfl;unfold E1;omega) (by kernel_rfl)
 refine jx ⟨by have e:kG.length=7:=rfl;unfold E1;omega,?_,by decide,_,(by kernel_rfl:rxT kG=([⟨0,[99,101,108,108],0⟩,⟨0,[99],5⟩,⟨2,[59],6⟩],0,0)),rfl⟩ (Ni (by decide)) (by decide) (by decide)
 intro g hg
 simp only[kgl,List.mem_singleton]at hg
 subst hg
 exact N1 _ (by decide)
theorem A7m(va:List Va)(f:Int)(hv:va.length<=5000)(hf:f<10):okR 50 10 kP va ⟨[],[]⟩ f:=⟨uo (M:=8) (by kernel_rfl),by decide,by decide,(by intro x hx;cases hx),by decide,by decide,hv,hf,by decide⟩
theorem kPb:(blC kP.g.c).length=1:=rfl
theorem A7n:clF 10 kP [102] [⟨false,0,[]⟩] ⟨[],[]⟩ 9=⟨7,1,[⟨[99],0⟩],[],1,0,[102],1,0⟩:=by kernel_rfl
theorem A7o:clF 10 kP [102] [⟨false,1,[]⟩] ⟨[],[]⟩ 9=⟨7,0,[⟨[99],1⟩],[],0,1,[],0,0⟩:=by kernel_rfl
theorem A7p:clF 10 kP [103] [] ⟨[],[]⟩ 9=⟨9,0,[⟨[99],0⟩],[],1,0,[103],-1,4⟩:=by kernel_rfl
theorem aM{l:List Nb}{x:Nb}(h:l[i]?=some x)(z:List D):(l.map Nb.r).getD i z=x.r:=by simp[List.getD,h]
theorem W1{l:List Na}{x:Na}(h:l[i]?=some x)(z:List D):(l.map Na.r).getD i z=x.r:=by simp[List.getD,h]
theorem A4X{l:List Int}{x:Int}(h:l[i]?=some x)(z:List D):(l.map iD).getD i z=[.v (.int .i64 x)]:=by simp[List.getD,h,iD]
abbrev Gb(pc:List (List UInt8))(pa:List Gy)(pf:List Fn):Ch:=.vec 0 [.v (.bool false),.v (.bool false),.v (.bool false)] [[.d (.sl Fq (pc.map cSd)),.d (.sl GP (pa.map Gy.r)),.d (.sl zFn (pf.map Fn.r))]]
abbrev Fi:List C:=tgN 27 2
open Go Go.Sy Go.RowKit Go.ChangeShapes Go.WideShapes Go.ChangeAt
theorem A7q:ownKnob Tryz.prog.godebug=none:=by kernel_rfl
theorem A4Y:laidOutB Tryz.prog=true:=by kernel_rfl
theorem S5{H:Type}{enc:TypeId×Value->H}{P:Program}(hl:laidOutB P=true){W W':World}(hb:Below W.heap.size W W'):∀(ts:List TypeId) (vs:List Value) (ds:List (DataW H)) (ps:List MemPlace),
  (∀t∈ts,P.readableRec t=true/\t<P.types.size)->DataW.TrodAll enc P W 0 (λ_=>true) true ts vs ds ps->(∀x∈ps,x.block<W.heap.size)->DataW.TrodAll enc P W' 0 (λb=>decide (b<W.heap.size)) true ts vs ds ps
 |[],vs,ds,ps,_,h,_=>by
  obtain⟨rfl,rfl,rfl⟩:=trodAll_nil h
  exact trodAll_mk0
 |t::ts,vs,ds,ps,hts,h,hlt=>by
  obtain⟨v,vs',d,ds',p,q,rfl,rfl,rfl,h1,h2⟩:=trodAll_cons h
  have ht:=hts t (List.mem_cons_self ..)
  exact trodAll_cons_mk (Below.trod hl ht.1 ht.2 h1 hb λx hx=>hlt x (List.mem_append_left _ hx))
   (S5 hl hb ts vs' ds' q (λt' ht'=>hts t' (List.mem_cons_of_mem _ ht')) h2 λx hx=>hlt x (List.mem_append_right _ hx))
theorem oE{H:Type}{enc:TypeId×Value->H}{f:Func}{s:ChangeSpec}{W W':World}{args:Array Value}{ds gs:List (DataW H)}{before:List MemPlace}(hW:DataW.Whole enc Tryz.prog f.params.toList s.vars false W args.toList ds gs before)
  (hv:s.vars=[]) (hr:f.resultTypes = #[4]) (hts:∀t∈f.params.toList,Tryz.prog.readableRec t=true/\t<Tryz.prog.types.size)
  (hf:gs=[]->(s.fn H (ds++gs)).results=[.lit (.bool true)]/\(s.fn H (ds++gs)).args=ds/\(s.fn H (ds++gs)).vars=[]) (hb:Below W.heap.size W W') :
  s.post enc Tryz.prog f false true false false W args (.bool true) W':=by
 have hlt:=hW.lt
 have hW0:=hW
 obtain⟨p,q,hA,hV,rfl,_,_⟩:=hW
 rw[hv]at hV
 obtain⟨rfl,rfl⟩:=trodVars_none hV
 obtain⟨f1,f2,f3⟩:=hf rfl
 refine⟨ds,[],p++[],[],p,[],hW0,?_,?_,?_,hb.frame _,λh=>by cases h⟩
 .rw[f1,hr]
  exact trodAll_cons_mk (shut_bool Tryz.underlying4 true) trodAll_mk0
 .rw[f2]
  exact S5 A4Y hb _ _ _ _ hts hA λx hx=>by simpa using hlt x (List.mem_append_left _ hx)
 .rw[f3,hv];rfl
theorem kD{P:Program}{f:FuncId}{A:Type}{ac:ArgH A}{Cd:A->Prop}{F:A->SV}(h:Mg P f ac Cd F)(a:A)(w:World)(hc:Cd a)(vals:List Value)(val:Value)(hl:vals.length=(ac.e a).length)
  (h1:∀(j:Nat) (v:SV) (x:Value),(ac.e a)[j]?=some v->vals[j]?=some x->CD (hp w) (λb=>b<w.heap.size) v x)
  (h2:OU (F a)=some val):Calls P f vals.toArray w (λe w'=>e= .returned val/\Below w.heap.size w w'):=by
 refine(h a w (λb=>b<w.heap.size) vals hc (λ_ h=>h) hl h1).mono ?_
 rintro e w' ⟨v,x,fz',rfl,rfl,g1,g2,g3,g4,g5,g6⟩
 rw[Gq g5 h2]
 exact⟨rfl,g6⟩
section
variable {H:Type}{enc:TypeId×Value->H}{W:World}{base:Nat}{v:Value}{d:DataW H}{p:List MemPlace}
theorem Xe{n:Int}(h:(Lit.int .i64 n).wf=true):Uo n:=by
 have:=bounds_i64 h;unfold Uo;omega
theorem aN{n:Int}(h:(Lit.int .u8 n).wf=true):u8R n:=by
 have:=bounds_u8 h;unfold u8R;omega
end
open Go Go.Sy Go.RowKit
abbrev gD:Prop:=True
abbrev N4:SV:=.one (.v (.bool true))
noncomputable abbrev RG:ArgC (Unit):=ac0
abbrev gE:Prop:=Ca Tryz.prog 6 RG (λp:Unit=>gD ) (λp:Unit=>N4 )
theorem kE:gE:=by
 rintro ⟨_u⟩ w fz xs hc hfz hl hx
 refine Bg Tryz.func6 rfl w fz [(TL 50 8 kgl (y_Prog 50 8 kgl)),(Tr 50 10 (jw 50 10)),Lq] [(2,[.flag 12]),(3,[.flag 17])] RG (λp:Unit=>N4 ) _ xs hfz hl hx (jN rfl) ?_
 clear hx hl hfz xs
 simp only[Tryz.f6]
 have hg:gloB=[103,108,111,98,97,108,115]:=rfl
 have he:=A7k
 have hu:=A7l
 have hr:=A7m
 rw[hg]at he hu
 simp only[kT,kG]at he hu
 simp only[seval,go_sem,TL,Tr,LG,LF,A00,Un.c,pqR,zUc,GL,GM,MW,MX,jy,Ad,Ae,jz,ur,pgR,stR,ouC,OI,LL,LM,MU,lmH,lmO,chL,ML.ch,Cj,Ck,DH,CU,E8,nmX,xt,Di,ML.ren,rnC,E5,EE,vrQ,Ci,fcN,↓A0,JU,JV,XW,M_Bl,SM,SN,Ez,G9,he,A7n,A7o,A7p,Dz,kPb,Nb.r]
 refine⟨⟨jN rfl,hu⟩,hr _ 9 (jN rfl) (by decide),hr _ 9 (jN rfl) (by decide),hr _ 9 (jN rfl) (by decide),⟨by decide,by decide,(by intro x hx;cases hx)⟩,?_⟩
 refine A1 [] ?_;simp only[seval,go_sem,bne,N4]
noncomputable def W2{X:Ctx}{w0:World}:Sy.Spec Tryz.prog X w0:=Dq 6 Tryz.call6 RG _ _ KF3 kE
structure Ou where
 e:Int
 v:Int
 f:List UInt8
 al:Int
 k:Int
 s:Sta
def Ou.c(x:Ou):List C:=[.v (.int .i64 x.e),.v (.int .i64 x.v),.v (.string (bs x.f)),.v (.int .i64 x.al),.v (.int .i64 x.k),.d (.sl Hc (x.s.cs.map Nb.r)),.d (.sl Hd (x.s.ar.map Na.r))]
theorem A4Z(v:SV)(a b:Ou)(h:leV v (.agg a.c))(h':leV v (.agg b.c)):a=b:=by
 cases v with
 |one c=>exact h.elim
 |tup l=>exact h.elim
 |agg l=>
 obtain⟨e,v,f,al,k,cs,ar⟩:=a
 obtain⟨e',v',f',al',k',cs',ar'⟩:=b
 match l,h,h' with
 |[c0,c1,c2,c3,c4,c5,c6],⟨h0,h1,h2,h3,h4,h5,h6,_⟩,⟨g0,g1,g2,g3,g4,g5,g6,_⟩=>
  have e0:=M9 h0 g0
  have e1:=M9 h1 g1
  have e2:=M9 h2 g2
  have e3:=M9 h3 g3
  have e4:=M9 h4 g4
  simp only[Value.string.injEq,Value.int.injEq,true_and]at e0 e1 e2 e3 e4
  have k2:=bs_inj e2
  have k5:=Aj XO (GH h5 g5)
  have k6:=Aj XP (GH h6 g6)
  subst e0;subst e1;subst k2;subst e3;subst e4;subst k5;subst k6;rfl
noncomputable def cOu:Cod Ou:=Hl (λx=>.agg x.c) A4Z (λx=>rfl)
theorem rI(x:Ou):cOu.e x= .agg x.c:=rfl
theorem rJ(e v al k:Int)(f:List UInt8)(cs:List Nb)(ar:List Na):cOu.d (.agg [.v (.int .i64 e),.v (.int .i64 v),.v (.string (bs f)),.v (.int .i64 al),.v (.int .i64 k),.d (.sl Hc (cs.map Nb.r)),.d (.sl Hd (ar.map Na.r))])=some ⟨e,v,f,al,k,⟨cs,ar⟩⟩:=E4 (e:=λx:Ou=>.agg x.c) (a:=⟨e,v,f,al,k,⟨cs,ar⟩⟩) (F4 _)
def lsB(s:Sta):Bool:=!decide (5<(s.cs.length:Int))&&!decide (5<(s.ar.length:Int))&&s.ar.all λx=>!decide (12<(x.l.length:Int))
abbrev kF(s:Sta):Prop:=True
abbrev JZ(s:Sta):SV:=.one (.v (.bool (lsB s)))
noncomputable abbrev SR:ArgC ((Sta)×Unit):=(acS (cSta) ac0)
abbrev kH:Prop:=Ca Tryz.prog 8 SR (λp:(Sta)×Unit=>kF p.1) (λp:(Sta)×Unit=>JZ p.1)
attribute [local go_sem] Na.r Nb.r Ou.c rJ rI MX MW stR
theorem oF:kH:=by
 rintro ⟨s,_u⟩ w fz xs hc hfz hl hx
 refine Bg Tryz.func8 rfl w fz [] [] SR (λp:(Sta)×Unit=>JZ p.1) _ xs hfz hl hx (jN rfl) ?_
 clear hx hl hfz xs
 simp only[Tryz.f8]
 obtain⟨sc,sa⟩:=s
 cases h1:decide (5<(sc.length:Int)) with
 |true=>
  have hr:lsB ⟨sc,sa⟩=false:=by unfold lsB;dsimp only;rw[h1];rfl
  cases h2:decide (5<(sa.length:Int))<;>
  (
   simp only[seval,go_sem,iD,h1,h2]
   refine A1 [] ?_;simp only[seval,go_sem,bne,JZ,hr])
 |false=>
 cases h2:decide (5<(sa.length:Int)) with
 |true=>
  have hr:lsB ⟨sc,sa⟩=false:=by unfold lsB;dsimp only;rw[h1,h2];rfl
  simp only[seval,go_sem,iD,h1,h2]
  refine A1 [] ?_;simp only[seval,go_sem,bne,JZ,hr]
 |false=>
 have hl:sa.length<=5:=by have:=of_decide_eq_false h2;omega
 have hr:lsB ⟨sc,sa⟩=sa.all λx=>!decide (12<(x.l.length:Int)):=by unfold lsB;dsimp only;rw[h1,h2];rfl
 simp only[seval,go_sem,iD,h1,h2]
 refine AC (Y:=Nat) (λi=>i<=sa.length/\lsB ⟨sc,sa⟩=(sa.drop i).all λx=>!decide (12<(x.l.length:Int)))
  (λi=>⟨[(1,true,.one (.p 1 0 0)),(3,true,.one (.v (.int .i64 (i:Int))))],[(1,.vec 0 [.v (.bool false),.v (.bool false)] [[.d (.sl Hc (sc.map Nb.r)),.d (.sl Hd (sa.map Na.r))]])]⟩)
  (λi=>sa.length-i) 0 ⟨Nat.zero_le _,hr⟩ ?_ ?_
 .exact ww
 rintro i ⟨hi,hJ⟩
 refine AP [] [] _ _ _ ?_
 have w1:IntKind.i64.wrap ((i:Int)+1)=((i+1:Nat):Int):=by rw[wrap_i64 (by omega) (by omega)];rfl
 cases hx:sa[i]? with
 |none=>
  have g2:=List.getElem?_eq_none_iff.1 hx
  have g1:=Ai g2
  have hr2:lsB ⟨sc,sa⟩=true:=by rw[hJ,List.drop_eq_nil_of_le g2];rfl
  simp only[seval,go_sem,iD,g1]
  refine A1 [] ?_;simp only[seval,go_sem,bne,JZ,hr2]
 |some x=>
 have hlt:=(List.getElem?_eq_some_iff.1 hx).1
 have g1:=Ah hlt
 have hil:(i:Int)<(sa.length:Int):=by omega
 have hz:=W1 hx
 rw[BF hx,List.all_cons]at hJ
 obtain⟨xs,xl⟩:=x
 dsimp only at hJ
 cases h3:decide (12<(xl.length:Int)) with
 |true=>
  have hr2:lsB ⟨sc,sa⟩=false:=by rw[hJ,h3];rfl
  simp only[seval,go_sem,iD,g1,hz,h3]
  refine⟨hil,?_⟩
  refine A1 [] ?_;simp only[seval,go_sem,bne,JZ,hr2]
 |false=>
 rw[h3]at hJ
 simp only[seval,go_sem,iD,g1,hz,h3,w1]
 refine⟨hil,i+1,⟨hlt,hJ⟩,(by omega),?_⟩
 exact ww
noncomputable def Yb{X:Ctx}{w0:World}:Sy.Spec Tryz.prog X w0:=Dq 8 Tryz.call8 SR _ _ KF3 oF
abbrev Yc(a:Sta)(b:Sta):Prop:=a=b/\a.cs.length<=1000000/\a.ar.length<=1000000/\∀x∈a.ar,x.l.length<=1000000000
abbrev MZ(a:Sta)(b:Sta):SV:=.one (.v (.bool true))
noncomputable abbrev SS:ArgC ((Sta)×(Sta)×Unit):=(acS (cSta) (acS (cSta) ac0))
abbrev kJ:Prop:=Ca Tryz.prog 16 SS (λp:(Sta)×(Sta)×Unit=>Yc p.1 p.2.1) (λp:(Sta)×(Sta)×Unit=>MZ p.1 p.2.1)
theorem oG:kJ:=by
 rintro ⟨a,b,_u⟩ w fz xs hc hfz hl hx
 refine Bg Tryz.func16 rfl w fz [] [] SS (λp:(Sta)×(Sta)×Unit=>MZ p.1 p.2.1) _ xs hfz hl hx (jN rfl) ?_
 clear hx hl hfz xs
 simp only[Tryz.f16]
 dsimp only at hc
 obtain⟨h0,h1,h2,h3⟩:=hc
 subst h0
 obtain⟨sc,sa⟩:=a
 dsimp only at h1 h2 h3
 simp only[seval,go_sem,iD,bne_self_eq_false,beq_self_eq_true]
 refine AC (Y:=Nat) (λi=>i<=sc.length)
  (λi=>⟨[(2,true,.one (.p 2 0 0)),(3,true,.one (.p 3 0 0)),(5,true,.one (.v (.int .i64 (i:Int))))],[(2,.vec 0 [.v (.bool false),.v (.bool false)] [[.d (.sl Hc (sc.map Nb.r)),.d (.sl Hd (sa.map Na.r))]]),(3,.vec 0 [.v (.bool false),.v (.bool false)] [[.d (.sl Hc (sc.map Nb.r)),.d (.sl Hd (sa.map Na.r))]])]⟩)
  (λi=>sc.length-i) 0 (Nat.zero_le _) ?_ ?_
 .exact ww
 rintro i hi
 refine AP [] [] _ _ _ ?_
 have w1:IntKind.i64.wrap ((i:Int)+1)=((i+1:Nat):Int):=by rw[wrap_i64 (by omega) (by omega)];rfl
 cases hx:sc[i]? with
 |some x=>
  have hlt:=(List.getElem?_eq_some_iff.1 hx).1
  have g1:=Ah hlt
  have hil:(i:Int)<(sc.length:Int):=by omega
  have hz:=aM hx
  simp only[seval,go_sem,iD,g1,hz,w1,bne_self_eq_false,beq_self_eq_true]
  refine⟨hil,hil,Bn (by kernel_rfl),i+1,hlt,(by omega),?_⟩
  exact ww
 |none=>
 have g2:=List.getElem?_eq_none_iff.1 hx
 have g1:=Ai g2
 simp only[seval,go_sem,iD,g1]
 refine AC (Y:=Nat) (λi=>i<=sa.length)
  (λi=>⟨[(2,true,.one (.p 2 0 0)),(3,true,.one (.p 3 0 0)),(6,true,.one (.v (.int .i64 (i:Int))))],[(2,.vec 0 [.v (.bool false),.v (.bool false)] [[.d (.sl Hc (sc.map Nb.r)),.d (.sl Hd (sa.map Na.r))]]),(3,.vec 0 [.v (.bool false),.v (.bool false)] [[.d (.sl Hc (sc.map Nb.r)),.d (.sl Hd (sa.map Na.r))]])]⟩)
  (λi=>sa.length-i) 0 (Nat.zero_le _) ?_ ?_
 .exact ww
 rintro j hj
 refine AP [] [] _ _ _ ?_
 have w2:IntKind.i64.wrap ((j:Int)+1)=((j+1:Nat):Int):=by rw[wrap_i64 (by omega) (by omega)];rfl
 cases hy:sa[j]? with
 |none=>
  have k2:=List.getElem?_eq_none_iff.1 hy
  have k1:=Ai k2
  simp only[seval,go_sem,iD,k1]
  refine A1 [] ?_;simp only[seval,go_sem,bne,MZ]
 |some y=>
 have hlt:=(List.getElem?_eq_some_iff.1 hy).1
 have k1:=Ah hlt
 have hjl:(j:Int)<(sa.length:Int):=by omega
 have hz:=W1 hy
 have hyl:=h3 y (List.mem_of_getElem? hy)
 obtain⟨ys,yl⟩:=y
 dsimp only at hyl
 simp only[seval,go_sem,iD,k1,hz,bne_self_eq_false,beq_self_eq_true]
 refine⟨hjl,hjl,hjl,hjl,Bn (by kernel_rfl),?_⟩
 refine AC (Y:=Nat) (λk=>k<=yl.length)
  (λk=>⟨[(2,true,.one (.p 2 0 0)),(3,true,.one (.p 3 0 0)),(6,true,.one (.v (.int .i64 (j:Int)))),(7,true,.one (.v (.int .i64 (k:Int))))],[(2,.vec 0 [.v (.bool false),.v (.bool false)] [[.d (.sl Hc (sc.map Nb.r)),.d (.sl Hd (sa.map Na.r))]]),(3,.vec 0 [.v (.bool false),.v (.bool false)] [[.d (.sl Hc (sc.map Nb.r)),.d (.sl Hd (sa.map Na.r))]])]⟩)
  (λk=>yl.length-k) 0 (Nat.zero_le _) ?_ ?_
 .exact ww
 rintro k hk
 refine AP [] [] _ _ _ ?_
 have w3:IntKind.i64.wrap ((k:Int)+1)=((k+1:Nat):Int):=by rw[wrap_i64 (by omega) (by omega)];rfl
 cases hq:yl[k]? with
 |none=>
  have q2:=List.getElem?_eq_none_iff.1 hq
  have q1:=Ai q2
  simp only[seval,go_sem,iD,hz,q1,w2]
  refine⟨hjl,j+1,hlt,(by omega),?_⟩
  exact ww
 |some q=>
 have hqlt:=(List.getElem?_eq_some_iff.1 hq).1
 have q1:=Ah hqlt
 have hkl:(k:Int)<(yl.length:Int):=by omega
 have hzq:=A4X hq
 simp only[seval,go_sem,iD,hz,hzq,q1,w3,bne_self_eq_false]
 refine⟨hjl,hjl,hkl,hjl,hkl,Bn (by kernel_rfl),k+1,hqlt,(by omega),?_⟩
 exact ww
noncomputable def P6{X:Ctx}{w0:World}:Sy.Spec Tryz.prog X w0:=Dq 16 Tryz.call16 SS _ _ KF3 oG
abbrev gG(a:Ou)(b:Ou):Prop:=a=b/\a.s.cs.length<=1000000/\a.s.ar.length<=1000000/\∀x∈a.s.ar,x.l.length<=1000000000
abbrev N5(a:Ou)(b:Ou):SV:=.one (.v (.bool true))
noncomputable abbrev RH:ArgC ((Ou)×(Ou)×Unit):=(acS (cOu) (acS (cOu) ac0))
abbrev gH:Prop:=Ca Tryz.prog 13 RH (λp:(Ou)×(Ou)×Unit=>gG p.1 p.2.1) (λp:(Ou)×(Ou)×Unit=>N5 p.1 p.2.1)
theorem kK:gH:=by
 rintro ⟨a,b,_u⟩ w fz xs hc hfz hl hx
 refine Bg Tryz.func13 rfl w fz [P6] [] RH (λp:(Ou)×(Ou)×Unit=>N5 p.1 p.2.1) _ xs hfz hl hx (jN rfl) ?_
 clear hx hl hfz xs
 simp only[Tryz.f13]
 dsimp only at hc
 obtain⟨h0,h1,h2,h3⟩:=hc
 subst h0
 obtain⟨e,v,f,al,k,sc,sa⟩:=a
 dsimp only at h1 h2 h3
 simp only[seval,go_sem,P6,iD,bne_self_eq_false,beq_self_eq_true]
 refine⟨⟨rfl,h1,h2,h3⟩,?_⟩
 refine A1 [] ?_;simp only[seval,go_sem,bne,N5,MZ]
noncomputable def W3{X:Ctx}{w0:World}:Sy.Spec Tryz.prog X w0:=Dq 13 Tryz.call13 RH _ _ KF3 kK
end Go.Proofs.YtapedeoheilnnaaGreat
