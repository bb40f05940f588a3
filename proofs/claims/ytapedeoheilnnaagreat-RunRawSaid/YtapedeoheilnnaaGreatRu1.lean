/- More fuel: a run that ends with some ends so with more, plain. No conditions but those in each statement. -/
import Derived.Test.YtapedeoheilnnaaGreatSy36
import Derived.Test.YtapedeoheilnnaaGreatZs3
import Derived.Test.YtapedeoheilnnaaGreatMk5
import Derived.Test.YtapedeoheilnnaaGreatOu
import Derived.Test.YtapedeoheilnnaaGreatRml
import Derived.Test.YtapedeoheilnnaaGreatOp
import Derived.Test.YtapedeoheilnnaaGreatZp
set_option linter.all false
set_option maxRecDepth 100000
set_option maxHeartbeats 16000000
namespace Go.Proofs.YtapedeoheilnnaaGreat
open Go Go.Sy Go.RowKit
def Ms.pl(m:Ms)(d:Int):Ms:={ m with fuel:=m.fuel+d }
def Fa.pl(q:Fa)(d:Int):Fa:={ q with m:=q.m.pl d }
def Ro.pl(r:Ro)(d:Int):Ro:=⟨r.b,r.t,r.q.pl d⟩
def Ro.ex(r:Ro):Prop:=r.b=true/\r.q.m.e=2
section
variable (d:Int)
end
structure Fu(q:Fa)(r:Ro):Prop where
 l:0<=r.q.m.fuel
 u:r.q.m.fuel<=q.m.fuel
theorem Fu.of{q q':Fa}{b t:Bool}(h:0<=q.m.fuel)(e:q'.m.fuel=q.m.fuel):Fu q ⟨b,t,q'⟩:=⟨by show 0<=q'.m.fuel;omega,by show q'.m.fuel<=_;omega⟩
theorem Fu.tr{q q':Fa}{r:Ro}(h:q'.m.fuel<=q.m.fuel)(k:Fu q' r):Fu q r:=⟨k.l,by have:=k.u;omega⟩
open Go Go.Sy Go.RowKit
theorem A4K{n:Nat}{P:Pg}{f:List UInt8}{va:List Va}{s:Sta}{a:Int}(h2:a<=1000000):(clF n P f va s a).cs.length=(stCs P.g.c s.cs).length/\(clF n P f va s a).ar.map naL=(stA P.g.a s.ar).map naL:=by
 unfold clF
 split
 .rename_i h
  have e1:mn a 1048576=a:=by unfold mn;split<;>omega
  have key:(rnA n P f va (ms0 P s a)).2.2.cs.length=(stCs P.g.c s.cs).length/\(rnA n P f va (ms0 P s a)).2.2.ar.map naL=(stA P.g.a s.ar).map naL:=by
   unfold rnA
   cases P.fi f with
   |none=>exact⟨rfl,rfl⟩
   |some i=>
   dsimp only
   split
   .exact⟨rfl,rfl⟩
   split
   .exact⟨rfl,rfl⟩
   have k:=VV (M7 n) ⟨[],0,P,ms0 P s a,[]⟩ (P.fs.getD i.toNat ⟨[],[],[],[]⟩) va (by show 0<=mn a 1048576;omega) (by show mn a 1048576<=_;omega)
   exact⟨k.c,k.a⟩
  unfold rnZ OA
  split
  .split
   .exact key
   exact key
  exact key
 exact⟨rfl,rfl⟩
def ltF(l:List (List Int))(n:Int):Bool:=!(decide (4<(l.length:Int)))&&l.all λb=>!(decide (n<(b.length:Int)))
theorem A4L{l:List (List Int)}{i:Nat}(h:i<l.length)(p:List Int->Bool):(l.drop i).all p=(p (l.getD i [])&&(l.drop (i+1)).all p):=by
 rw[List.drop_eq_getElem_cons h,List.all_cons]
 simp only[List.getD,List.getElem?_eq_getElem h,Option.getD_some]
abbrev ng(l:List (List Int))(n:Int):Prop:=l.length<=maxLen
abbrev Lj(l:List (List Int))(n:Int):SV:=.one (.v (.bool (ltF l n)))
noncomputable abbrev UX:ArgC ((List (List Int))×(Int)×Unit):=(acS (cBl) (acS (cInt .i64) ac0))
abbrev nh:Prop:=Cu Tryz.prog 7 UX (λp:(List (List Int))×(Int)×Unit=>ng p.1 p.2.1) (λp:(List (List Int))×(Int)×Unit=>Lj p.1 p.2.1)
attribute [local go_sem] Yw Yv xo
theorem uR:nh:=by
 rintro ⟨l,n,_u⟩ w fz xs hc hfz hl hx
 refine Bu Tryz.func7 rfl w fz [] [] UX (λp:(List (List Int))×(Int)×Unit=>Lj p.1 p.2.1) _ xs hfz hl hx (jN rfl) ?_
 clear hx hl hfz xs
 simp only[Tryz.f7]
 have hc:l.length<=9223372036854775807:=Nat.le_trans (show l.length<=maxLen from hc) (by decide)
 cases h4:decide (4<(l.length:Int)) with
 |true=>
  have hr:ltF l n=false:=by unfold ltF;rw[h4];rfl
  simp only[seval,go_sem,h4]
  refine A1 [] ?_;simp only[seval,go_sem,bne,Lj,hr]
 |false=>
 obtain⟨p,hp⟩:∃p:List Int->Bool,(λb=>!(decide (n<(b.length:Int))))=p:=⟨_,rfl⟩
 have hr:ltF l n=l.all p:=by unfold ltF;rw[h4,<- hp];rfl
 simp only[seval,go_sem,h4]
 refine AK (Y:=Nat) (λi=>i<=l.length/\(l.drop i).all p=l.all p)
  (λi=>⟨[(0,true,.one (.d (.sl Iy (l.map Hq)))),(1,true,.one (.v (.int .i64 n))),(5,true,.one (.v (.int .i64 (i:Int))))],[]⟩)
  (λi=>l.length-i) 0 ⟨Nat.zero_le _,rfl⟩ ?_ ?_
 .refine A4 [] ?_;simp only[seval,go_sem]
 rintro i ⟨hi,hJ⟩
 refine AZ [] [] _ _ _ ?_
 by_cases hlt:i<l.length
 .have h1:decide ((i:Int)<(l.length:Int))=true:=decide_eq_true (by omega)
  have w1:IntKind.i64.wrap ((i:Int)+1)=((i+1:Nat):Int):=by rw[wrap_i64 (by omega) (by omega)];rfl
  have hz:=iG hlt
  have hil:(i:Int)<(l.length:Int):=by omega
  rw[A4L hlt]at hJ
  have hpb:p (l.getD i []) = !(decide (n<((l.getD i []).length:Int))):=by rw[<- hp]
  rw[hpb]at hJ
  generalize l.getD i []=b at hz hJ hpb
  cases hb:decide (n<(b.length:Int)) with
  |true=>
   have hr2:ltF l n=false:=by rw[hr,<- hJ,hb];rfl
   simp only[seval,go_sem,h1,hz,hb]
   refine⟨⟨hil,rfl⟩,?_⟩
   refine A1 [] ?_;simp only[seval,go_sem,bne,Lj,hr2]
  |false=>
  have hJ2:(l.drop (i+1)).all p=l.all p:=by rw[<- hJ,hb];rfl
  simp only[seval,go_sem,h1,w1,hz,hb]
  refine⟨⟨hil,rfl⟩,i+1,⟨hlt,hJ2⟩,(by omega),?_⟩
  refine A4 [] ?_;simp only[seval,go_sem]
 have h1:decide ((i:Int)<(l.length:Int))=false:=decide_eq_false (by omega)
 have hr2:ltF l n=true:=by rw[hr,<- hJ,List.drop_of_length_le (by omega)];rfl
 simp only[seval,go_sem,h1]
 refine A1 [] ?_;simp only[seval,go_sem,bne,Lj,hr2]
noncomputable def Zv{X:Ctx}{w0:World}:Sy.Spec Tryz.prog X w0:=E2 7 Tryz.call7 UX _ _ KF4 uR
noncomputable def suN(g:Int)(l:List (List Int)):Nat:=(sUn g l).choose
noncomputable def suM(g:Int)(l:List (List Int)):Nat:=(sUn g l).choose_spec.choose
theorem A4M(g:Int)(l:List (List Int)):∀u∈utF g l,okUn (suN g l) (suM g l) (wgl g) u:=(sUn g l).choose_spec.choose_spec.2
theorem zj{k:Int}{l:List (List Int)}(hk:k<=1000)(h:ltF l k=true)(hb:∀x∈l,x.length<=maxLen/\∀y∈x,u8R y):l.length<=4/\∀b∈l,okY b:=by
 unfold ltF at h
 rw[Bool.and_eq_true]at h
 have h1:¬(4:Int)<(l.length:Int):=by
  intro hh;rw[decide_eq_true hh]at h;exact absurd h.1 (by decide)
 refine⟨by omega,λb hbl=>?_⟩
 have h2:=List.all_eq_true.1 h.2 b hbl
 have h3:¬k<(b.length:Int):=by
  intro hh;rw[decide_eq_true hh]at h2;exact absurd h2 (by decide)
 exact⟨by omega,λy hy=>by have:=(hb b hbl).2 y hy;unfold u8R at this;omega⟩
abbrev jg(N:Nat)(n:Nat)(p:Pg)(f:List UInt8)(va:List Va)(s:Sta)(fuel:Int):Prop:=okR N n p va s fuel/\IV p
abbrev YJ(N:Nat)(n:Nat)(p:Pg)(f:List UInt8)(va:List Va)(s:Sta)(fuel:Int):SV:=.agg (ouC (clF n p f va s fuel))
noncomputable abbrev YK:ArgC ((Pg)×(List UInt8)×(List Va)×(Sta)×(Int)×Unit):=(acS (cPg) (acS (cStr) (acS (LC) (acS (cSta) (acS (cInt .i64) ac0)))))
abbrev YL(N:Nat)(n:Nat):Prop:=Cu Tryz.prog 15 YK (λp:(Pg)×(List UInt8)×(List Va)×(Sta)×(Int)×Unit=>jg N n p.1 p.2.1 p.2.2.1 p.2.2.2.1 p.2.2.2.2.1) (λp:(Pg)×(List UInt8)×(List Va)×(Sta)×(Int)×Unit=>YJ N n p.1 p.2.1 p.2.2.1 p.2.2.2.1 p.2.2.2.2.1)
noncomputable def YM{X:Ctx}{w0:World}(N:Nat)(n:Nat)(h:YL N n):Sy.Spec Tryz.prog X w0:=E2 15 Tryz.call15 YK _ _ KF4 h
theorem jh{P:Program}{f:FuncId}{A:Type}{ac:ArgC A}{Cd Cd':A->Prop}{F G:A->SV}(h:Cu P f ac Cd F)(hc:∀a,Cd' a->Cd a/\F a=G a):Cu P f ac Cd' G:=by
 intro a w fz xs ha hfz hl hx
 obtain⟨h1,h2⟩:=hc a ha
 have:=h a w fz xs h1 hfz hl hx
 rw[h2]at this
 exact this
theorem ni(N n:Nat):YL N n:=jh (x8 N n) λa ha=>⟨⟨ha.1,we ha.2⟩,congrArg SV.agg (A1u ha.2 ha.1.f)⟩
theorem uS{N n:Nat}{P:Pg}{f:List UInt8}{va:List Va}{s:Sta}{fuel:Int}(h:okR N n P va s fuel)(h2:fuel<=1000000):(clF n P f va s fuel).cs.length<=1000000/\(clF n P f va s fuel).ar.length<=1000000/\∀x∈(clF n P f va s fuel).ar,x.l.length<=1000000000:=by
 have hk:=A4K (n:=n) (P:=P) (f:=f) (va:=va) (s:=s) (a:=fuel) h2
 have hst:=XR P.g.a s.ar (λx hx=>(h.l x hx).2)
 refine⟨?_,?_,λx hx=>?_⟩
 .have h1:=hk.1;rw[Qo]at h1;have:=h.c;omega
 .have h1:=congrArg List.length hk.2
  rw[List.length_map,List.length_map,ZV]at h1
  have:=h.a;omega
 have h1:naL x∈(clF n P f va s fuel).ar.map naL:=List.mem_map_of_mem hx
 rw[hk.2]at h1
 obtain⟨y,hy,e⟩:=List.mem_map.1 h1
 have:=hst y hy
 show naL x<=_
 rw[<- e];exact this
noncomputable def rI6:RowC Int:=rowOf zIw iD Zg λ_=>rfl
theorem A4N:rI6.e=iD:=rfl
theorem A4O:rI6.z=zIw:=rfl
theorem zk:zIw.length=1:=rfl
noncomputable section
abbrev ji(g:Int)(l:List (List Int))(f:List UInt8)(va:List Va)(s:Sta):Prop:=u8R g/\(l.length<=maxLen/\∀x∈l,x.length<=maxLen/\∀y∈x,u8R y)/\f.length<=maxLen/\va.length<=maxLen/\(s.cs.length<=maxLen/\s.ar.length<=maxLen/\∀x∈s.ar,x.l.length<=maxLen)
abbrev JT(g:Int)(l:List (List Int))(f:List UInt8)(va:List Va)(s:Sta):Value:=Value.bool true
attribute [local go_sem] Na.r Nb.r Ou.c Yw Yv A3m qJ qI HG HF cSl O8 O7 jW Ag Af jX ouC pgR pqR A4N A4O stR TX lj YM Zv G8 VG S7 Vl YG QF Lj Ig Mr MI Mw JA YJ zk
theorem nj:MX Tryz.prog 4 (ahS ((cInt .u8).H) (ahS (cBl.H) (ahS (cStr.H) (ahS (LC.H) (ahS (cSta.H) ah0))))) (λp:(Int×(List (List Int)×(List UInt8×(List Va×(Sta×Unit)))))=>ji p.1 p.2.1 p.2.2.1 p.2.2.2.1 p.2.2.2.2.1) (λp:(Int×(List (List Int)×(List UInt8×(List Va×(Sta×Unit)))))=>ofV (JT p.1 p.2.1 p.2.2.1 p.2.2.2.1 p.2.2.2.2.1)):=by
 rintro ⟨g,l,f,va,s,_u⟩ w fz xs hc hfz hl hx
 refine Ji Tryz.func4 rfl w fz [Vl,Zv,YG,(lj (suN g l) (suM g l) (wgl g) (A6W (suN g l) (suM g l) (wgl g))),(TX (suN g l) 1000 (jU (suN g l) 1000)),(YM (suN g l) 1000 (ni (suN g l) 1000)),VG] [] (ahS ((cInt .u8).H) (ahS (cBl.H) (ahS (cStr.H) (ahS (LC.H) (ahS (cSta.H) ah0))))) (λp:(Int×(List (List Int)×(List UInt8×(List Va×(Sta×Unit)))))=>ofV (JT p.1 p.2.1 p.2.2.1 p.2.2.2.1 p.2.2.2.2.1)) _ xs hfz hl hx (jN rfl) ?_
 clear hx hl hfz xs
 simp only[Tryz.f4]
 obtain⟨⟨g0,g1⟩,⟨l0,l1⟩,f0,v0,⟨s0,s1,s2⟩⟩:=hc
 dsimp only at g0 g1 l0 l1 f0 v0 s0 s1 s2
 obtain⟨sc,sa⟩:=s
 dsimp only at s0 s1 s2
 cases hL:ltF l 60 with
 |false=>
  simp only[seval,go_sem,iD,hL]
  refine⟨l0,?_⟩
  refine A1 [] ?_;simp only[seval,go_sem,bne,JT]
 |true=>
 cases hf:decide (30<(f.length:Int)) with
 |true=>
  simp only[seval,go_sem,iD,hL,hf]
  refine⟨l0,?_⟩
  refine A1 [] ?_;simp only[seval,go_sem,bne,JT]
 |false=>
 cases hv:decide (5<(va.length:Int)) with
 |true=>
  simp only[seval,go_sem,iD,hL,hf,hv]
  refine⟨l0,?_⟩
  refine A1 [] ?_;simp only[seval,go_sem,bne,JT]
 |false=>
 cases hS:lsB ⟨sc,sa⟩ with
 |false=>
  simp only[seval,go_sem,iD,hL,hf,hv,hS]
  refine⟨l0,?_⟩
  refine A1 [] ?_;simp only[seval,go_sem,bne,JT]
 |true=>
 obtain⟨lk1,lk2⟩:=zj (by decide) hL l1
 have hu:=A4M g l
 have hU:lh (suN g l) (suM g l) (wgl g) g l:=⟨⟨g0,by show l.length<=1000000;omega,lk2⟩,hu⟩
 have hG:=pM (m:=suM g l) (g:=g) (l:=l)
 have hvl:=of_decide_eq_false hv
 have hl5:sc.length<=5/\sa.length<=5:=by
  unfold lsB at hS
  simp only[Bool.and_eq_true,Bool.not_eq_true',decide_eq_false_iff_not]at hS
  omega
 have hR:=A6Z (s:=⟨sc,sa⟩) (va:=va) (fuel:=100) (k:=1000) hu (by omega) (by show sc.length<=_;omega) (by show sa.length<=_;omega) (by decide) (by decide)
 obtain⟨P,hPe⟩:∃P,sPg (suM g l) (wgl g) g l=P:=⟨_,rfl⟩
 rw[hPe]at hR hG
 have hln:=uS (f:=f) hR (by decide)
 obtain⟨m,hm⟩:∃m,clF 1000 P f va ⟨sc,sa⟩ 100=m:=⟨_,rfl⟩
 rw[hm]at hln
 simp only[seval,go_sem,iD,hL,hf,hv,hS,hPe,Dq,hm]
 refine⟨l0,hU,hR,⟨hR,hG⟩,⟨rfl,hln⟩,CH (by kernel_rfl),?_⟩
 refine A1 [] ?_;simp only[seval,go_sem,bne,JT]
end
open Go Go.Sy Go.RowKit Go.ChangeShapes Go.WideShapes Go.ChangeAt
section
variable {H:Type}{enc:TypeId×Value->H}{W:World}
theorem zm(fuel:Nat):HV enc Tryz.prog W 67 fuel Va.r (λ_=>True):=by
 cases fuel with
 |zero=>exact GT
 |succ n=>
 exact J8 (λp:Bool×Int×List UInt8×Unit=>(⟨p.1,p.2.1,p.2.2.1⟩:Va)) _ _ (M6 Tryz.underlying67 (n:=3) (by kernel_rfl)
  (H6 (m:=1) (n:=2) rfl (by kernel_rfl) (iH Tryz.underlying4) (H6 (m:=1) (n:=1) rfl (by kernel_rfl) (Qk Tryz.underlying2) (H6 (m:=1) (n:=0) rfl (by kernel_rfl) (UF Tryz.underlying9) (Ql _))))) (λ_=>rfl) (λp hp=>trivial)
theorem uT(fuel:Nat):HV enc Tryz.prog W 41 fuel (λl:List Va=>[.sl Gj (l.map Va.r)]) (λl=>l.length<=maxLen):=by
 cases fuel with
 |zero=>exact GT
 |succ n=>exact J8 id _ _ (Jh Tryz.underlying41 Gj (by kernel_rfl) (by decide) (zm n)) (λ_=>rfl) (λ_ h=>h.1)
variable {base:Nat}{v:Value}{d:DataW H}{p:List MemPlace}
theorem nk(hv:Value.okWide Tryz.prog W .any base 41 v)(h:DataW.Trod enc Tryz.prog W 0 (λ_=>true) true 41 v d p):
  ∃l:List Va,l.length<=maxLen/\CD (hp W) (λb=>b<W.heap.size) (.one (.d (.sl Gj (l.map Va.r)))) v:=ZS (f:=λl:List Va=>D.sl Gj (l.map Va.r)) (r:=.any) (base:=base) (YF Tryz.underlying41 hv) h uT
end
end Go.Proofs.YtapedeoheilnnaaGreat
