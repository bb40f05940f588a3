/- Codings of trees, statements, functions. No conditions but those in each statement. -/
import Derived.Test.YtapedeoheilnnaaGreatAt
import Derived.Test.YtapedeoheilnnaaGreatMi1
set_option linter.all false
set_option maxRecDepth 20000
set_option maxHeartbeats 8000000
namespace Go.Proofs.YtapedeoheilnnaaGreat
open Go Go.Sy Go.RowKit
variable{P:Prop}{A:Type}
theorem xG(h:P:=by (repeat' first|exact ck|with_reducible apply And.intro|intro _);all_goals first|exact hc1|exact KZ|(refine A1 [] ?_;simp only[seval,go_sem,bne,QX,Mg])):P:=h
theorem xH(h:P:=by (repeat' first|exact ck|with_reducible apply And.intro|intro _);all_goals first|exact hc1|exact KZ|(refine A1 [] ?_;simp only[seval,go_sem,bne,Sj,D3,hk])):P:=h
theorem xI(h:P:=by (repeat' first|exact ck|with_reducible apply And.intro|intro _);all_goals first|exact hc1|exact KZ|(refine A1 [] ?_;simp only[seval,go_sem,bne,QZ,J6,hk])):P:=h
theorem G7{c:C}{z z':List D}{es es':List (List D)}(h:leC c (.d (.sl z es)))(h':leC c (.d (.sl z' es'))):es=es':=by
 rcases h with rfl|⟨h1,h2⟩
 .rcases h' with h|⟨h3,h4⟩
  .simp only[C.d.injEq,D.sl.injEq]at h;exact h.2
  cases h3
 obtain rfl:=Su h1
 rcases h' with h|⟨h3,h4⟩
 .cases h
 obtain⟨_,he⟩:=MG h2
 obtain⟨_,he'⟩:=MG h4
 simp only[C.d.injEq,D.sl.injEq]at he he'
 rw[he.2,he'.2]
theorem M1{c:C}{x y:Value}(h:leC c (.v x))(h':leC c (.v y)):x=y:=by
 rcases h with rfl|⟨_,h2⟩
 .rcases h' with h|⟨_,h4⟩
  .simpa using h
  cases h4
 cases h2
theorem Uz{c:C}{d d':D}(hd:∀z,oD d≠.d (.sl z []))(hd':∀z,oD d'≠.d (.sl z []))(h:leC c (oD d))(h':leC c (oD d')):oD d=oD d':=by
 rcases h with rfl|⟨_,h2⟩
 .rcases h' with h|⟨_,h4⟩
  .exact h
  obtain⟨z,h⟩:=MG h4;exact absurd h (hd' z)
 obtain⟨z,h⟩:=MG h2;exact absurd h (hd z)
theorem gr{a b:D}(h:oD a=oD b):a=b:=by cases a<;>cases b<;>simp_all [oD]
theorem WH{a b:Ex}(h:exC a=exC b):a=b:=Kv (gr h)
theorem cJ{a b:Cd}(h:cdC a=cdC b):a=b:=Tn (gr h)
theorem PU(e:Ex):∀z,oD e.d≠.d (.sl z []):=by intro z;cases e<;>simp[Ex.d,oD]
theorem V0(e:Cd):∀z,oD e.d≠.d (.sl z []):=by intro z;cases e<;>simp[Cd.d,oD]
noncomputable def cEx:Cod Ex:=Hh (λe=>.one (exC e)) (λv a b h h'=>by
 cases v with
 |one c=>exact WH (Uz (PU a) (PU b) h h')
 |agg l=>exact h.elim
 |tup l=>exact h.elim) (λe=>Lt e)
theorem CP(e:Ex):cEx.e e= .one (exC e):=rfl
theorem CA(e:Ex):cEx.d (.one (exC e))=some e:=ED (e:=λe=>.one (exC e)) (FA _)
theorem CQ:cEx.d (.one (.v (.pointer none)))=some .nil:=CA .nil
noncomputable def cCd:Cod Cd:=Hh (λe=>.one (cdC e)) (λv a b h h'=>by
 cases v with
 |one c=>exact cJ (Uz (V0 a) (V0 b) h h')
 |agg l=>exact h.elim
 |tup l=>exact h.elim) (λe=>Rb e)
theorem CR(e:Cd):cCd.e e= .one (cdC e):=rfl
theorem CS(e:Cd):cCd.d (.one (cdC e))=some e:=ED (e:=λe=>.one (cdC e)) (FA _)
theorem A2g(v:SV)(a b:Fn)(h:leV v (.agg a.c))(h':leV v (.agg b.c)):a=b:=by
 cases v with
 |one c=>exact h.elim
 |tup l=>exact h.elim
 |agg l=>
 obtain⟨n,ps,ls,bd⟩:=a
 obtain⟨n',ps',ls',bd'⟩:=b
 match l,h,h' with
 |[c0,c1,c2,c3],⟨h0,h1,h2,h3,_⟩,⟨g0,g1,g2,g3,_⟩=>
  have e0:=M1 h0 g0
  simp only[Value.string.injEq]at e0
  have k0:=bs_inj e0
  have k1:=Ac OU (G7 h1 g1)
  have k2:=Ac OU (G7 h2 g2)
  have k3:=Ac MY (G7 h3 g3)
  simp only at k0 k1 k2 k3
  subst k0;subst k1;subst k2;subst k3;rfl
noncomputable def cFn:Cod Fn:=Hh (λf=>.agg f.c) A2g (λf=>rfl)
theorem AE(f:Fn):cFn.e f= .agg f.c:=rfl
theorem AF(n:List UInt8)(ps ls:List Vr)(bd:List Sm):cFn.d (.agg [.v (.string (bs n)),.d (.sl zVr (ps.map Vr.r)),.d (.sl zVr (ls.map Vr.r)),.d (.sl zSm (bd.map Sm.r))])=some ⟨n,ps,ls,bd⟩:=ED (e:=λf:Fn=>.agg f.c) (a:=⟨n,ps,ls,bd⟩) (FA _)
theorem Ab(f:Fn):(⟨f.name,f.ps,f.ls,f.body⟩:Fn)=f:=rfl
theorem Hk(l:List Vr):(l.map Vr.r).map (λr=>r.map oD)=l.map Vr.c:=by rw[List.map_map];rfl
theorem eV{l:List Vr}{i:Nat}{x:Vr}(h:l[i]?=some x):(l.map Vr.c).getD i [.v (.string (bs [])),.v (.bool false)]=x.c:=by simp[List.getD,h]
theorem cK(a:Vr):∀c∈a.c,C.stor c=true:=by
 intro c hc;simp only[Vr.c,List.mem_cons,List.not_mem_nil,or_false]at hc;rcases hc with rfl|rfl<;>rfl
theorem AA{B:Type}(x:Option A):Tk x (none:Option B)=none:=by cases x<;>rfl
theorem AB{B:Type}(x:Option B):Tk (none:Option A) x=none:=rfl
theorem AN(Cd:A->Prop)(F:A->SV):PN (none:Option A) Cd F=none:=rfl
def Ex.dp:Ex->Nat
 | .nil=>0
 | .mk _ _ _ a b=>max a.dp b.dp+1
def Cd.dp:Cd->Nat
 | .nil=>0
 | .mk _ a b p q _=>max (max a.dp b.dp) (max p.dp q.dp)+1
theorem A2h(v:SV)(a b:Sm)(h:leV v (.agg a.c))(h':leV v (.agg b.c)):a=b:=by
 cases v with
 |one c=>exact h.elim
 |tup l=>exact h.elim
 |agg l=>
 obtain⟨k,x,y,e,f,cd,ar,th,el,no⟩:=a
 obtain⟨k',x',y',e',f',cd',ar',th',el',no'⟩:=b
 match l,h,h' with
 |[c0,c1,c2,c3,c4,c5,c6,c7,c8,c9],⟨h0,h1,h2,h3,h4,h5,h6,h7,h8,h9,_⟩,⟨g0,g1,g2,g3,g4,g5,g6,g7,g8,g9,_⟩=>
  have e0:=M1 h0 g0
  have e1:=M1 h1 g1
  have e2:=M1 h2 g2
  have e9:=M1 h9 g9
  simp only[Value.string.injEq,Value.int.injEq,true_and]at e0 e1 e2 e9
  have k1:=bs_inj e1
  have k2:=bs_inj e2
  have k3:=WH (Uz (PU _) (PU _) h3 g3)
  have k4:=WH (Uz (PU _) (PU _) h4 g4)
  have k5:=cJ (Uz (V0 _) (V0 _) h5 g5)
  have k6:=Ac ki (G7 h6 g6)
  have k7:=Ac MY (G7 h7 g7)
  have k8:=Ac MY (G7 h8 g8)
  simp only[Sm.k,Sm.x,Sm.y,Sm.e,Sm.f,Sm.cd,Sm.ar,Sm.th,Sm.el,Sm.no]at e0 k1 k2 k3 k4 k5 k6 k7 k8 e9
  subst e0;subst k1;subst k2;subst k3;subst k4;subst k5;subst k6;subst k7;subst k8;subst e9;rfl
noncomputable def cSm:Cod Sm:=Hh (λs=>.agg s.c) A2h (λs=>List.flatMap_eq_nil_iff.2 (Hg.nm s))
theorem DU(s:Sm):cSm.e s= .agg s.c:=rfl
theorem xJ(s:Sm):cSm.d (.agg s.c)=some s:=ED (e:=λs:Sm=>.agg s.c) (FA _)
theorem DV(k no:Int)(x y:List UInt8)(e f:Ex)(cd:Cd)(ar:List Ar)(th el:List Sm):cSm.d (.agg [.v (.int .i64 k),.v (.string (bs x)),.v (.string (bs y)),exC e,exC f,cdC cd,.d (.sl zAr (ar.map Ar.r)),.d (.sl zSm (th.map Sm.r)),.d (.sl zSm (el.map Sm.r)),.v (.int .i64 no)])=some (.mk k x y e f cd ar th el no):=xJ (.mk k x y e f cd ar th el no)
theorem Ed(k n:Int)(s:List UInt8)(a b:Ex):cEx.d (.one (.d (.pt (some [.v (.int .i64 k),.v (.int .i64 n),.v (.string (bs s)),a.d,b.d]))))=some (.mk k n s a b):=CA (.mk k n s a b)
theorem xK(s:Sm)(b:Bool):(SV.tup [.inr s.c,.inl (.v (.bool b))]).names=[]:=by
 have h:pNames (.inr s.c)=[]:=List.flatMap_eq_nil_iff.2 (Hg.nm s)
 simp only[SV.names,List.flatMap_cons,List.flatMap_nil,h];rfl
theorem Dh(l:List Ar):(l.map Ar.r).map (λr=>r.map oD)=l.map Ar.c:=by rw[List.map_map];rfl
theorem A2i{l:List Ar}{i:Nat}{x:Ar}(h:l[i]?=some x):(l.map Ar.c).getD i [.v (.bool false),.v (.string (bs [])),.v (.pointer none)]=x.c:=by simp[List.getD,h]
def fl4:List C:=[.v (.bool false),.v (.bool false),.v (.bool false),.v (.bool false)]
def Br:List C:=[.v (.bool false),.v (.bool false),.v (.bool false),.v (.bool false),.v (.bool false),.v (.bool false),.v (.bool false),.v (.bool false),.v (.bool false),.v (.bool false)]
structure OkS(n:Nat)(s:Sm):Prop where
 e:s.e.dp<n
 f:s.f.dp<n
 c:s.cd.dp<n
 a:∀a∈s.ar,a.e.dp<n
 l:s.ar.length<=5000
noncomputable def cSs:Cod (List Sm):=Hh (λl=>.one (.d (.sl zSm (l.map Sm.r)))) (λv a b h h'=>by
 cases v with
 |one c=>exact Ac MY (G7 h h')
 |agg l=>exact h.elim
 |tup l=>exact h.elim) (λl=>rfl)
theorem DN(l:List Sm):cSs.e l= .one (.d (.sl zSm (l.map Sm.r))):=rfl
theorem DO(l:List Sm):cSs.d (.one (.d (.sl zSm (l.map Sm.r))))=some l:=ED (e:=λl:List Sm=>.one (.d (.sl zSm (l.map Sm.r)))) (FA _)
def okB(n:Nat):Nat->List Sm->Prop
 |0,_=>False
 |m+1,l=>l.length<=5000/\∀s∈l,OkS n s/\okB n m s.th/\okB n m s.el
theorem Si{n m:Nat}{l:List Sm}(h:okB n m l):okB n m []:=by
 cases m with
 |zero=>exact h.elim
 |succ m=>exact⟨Nat.zero_le _,λs hs=>by cases hs⟩
def okF(f:Fn):Prop:=f.ps.length<=5000/\f.ls.length<=5000
def Ef(nm:List UInt8):List Vr->Int
 |[]=>0
 |v::l=>if (v.s==nm)=true then (if v.p=true then 2 else 1) else Ef nm l
def AH(f:Fn)(nm:List UInt8):Int:=Ef nm (f.ps++f.ls)
abbrev rU(f:Fn)(nm:List UInt8):Prop:=okF f
abbrev PV(f:Fn)(nm:List UInt8):SV:=.one (.v (.int .i64 (AH f nm)))
noncomputable abbrev WI:ArgC ((Fn)×(List UInt8)×Unit):=(acS (cFn) (acS (cStr) ac0))
abbrev rW:Prop:=Cu Tryz.prog 101 WI (λp:(Fn)×(List UInt8)×Unit=>rU p.1 p.2.1) (λp:(Fn)×(List UInt8)×Unit=>PV p.1 p.2.1)
theorem xL:rW:=by
 rintro ⟨f,nm,_u⟩ w fz xs hc hfz hl hx
 refine Bu Tryz.func101 rfl w fz [] [] WI (λp:(Fn)×(List UInt8)×Unit=>PV p.1 p.2.1) _ xs hfz hl hx (jN rfl) ?_
 clear hx hl hfz xs
 simp only[Tryz.f101]
 obtain⟨hc1,hc2⟩:=hc
 dsimp only at hc1 hc2
 simp only[seval,go_sem,AE,AF,CP,CA,CQ,CR,CS,Fn.c,Ab,AA,AB,AN,Hk]
 refine⟨⟨λq h=>(by cases h;rfl),Xt _ cK _,by omega,by omega⟩,⟨λq h=>(by cases h;rfl),Xt _ cK _,by omega,by omega⟩,CH (by kernel_rfl),?_⟩
 refine AK (Y:=Nat) (λi=>i<=(f.ps++f.ls).length/\Ef nm ((f.ps++f.ls).drop i)=AH f nm)
  (λi=>⟨[(1,true,.one (.v (.string (bs nm)))),(5,true,.one (.s 1000)),(6,true,.one (.v (.int .i64 (i:Int))))],[(1000,.vec 0 zVc ((f.ps++f.ls).map Vr.c))]⟩)
  (λi=>(f.ps++f.ls).length-i) 0 ⟨Nat.zero_le _,rfl⟩ ?_ ?_
 .refine A4 [.mv 12 1000] ?_;simp only[seval,go_sem,DM.mv,DM.fn,zVc,List.map_append,List.flatMap_append]
 rintro i ⟨hi,hJ⟩
 refine AZ [] [] _ _ _ ?_
 have hsm:(f.ps++f.ls).length<=4294967296:=by simp only[List.length_append];omega
 generalize f.ps++f.ls=L at hi hJ hsm ⊢
 cases hx:L[i]? with
 |none=>
  have hi2:L.length<=i:=List.getElem?_eq_none_iff.1 hx
  have h1:=B9 hi2
  rw[List.drop_eq_nil_of_le hi2]at hJ
  have hR:AH f nm=0:=hJ.symm
  simp only[seval,go_sem,h1]
  refine A1 [] ?_;simp only[seval,go_sem,bne,PV,hR]
 |some x=>
 have hlt:i<L.length:=(List.getElem?_eq_some_iff.1 hx).1
 have h1:=B8 hlt
 have h2:=GH hlt
 have h3:=eV hx
 have h4:=F6 hi hsm
 rw[BJ hx]at hJ
 simp only[Ef]at hJ
 simp only[seval,go_sem,h1,h2,h3,h4,zVc,Vr.c]
 simp only[A2,A3]
 refine⟨hlt,hlt,λhb=>⟨hlt,hlt,λhc=>?_,λhc=>?_⟩,λhb=>?_⟩
 .rw[if_pos hb,if_pos hc]at hJ
  refine A1 [] ?_;simp only[seval,go_sem,bne,PV,<- hJ]
 .rw[if_pos hb,if_neg (by rw[hc];decide)]at hJ
  refine A1 [] ?_;simp only[seval,go_sem,bne,PV,<- hJ]
 rw[if_neg (by rw[hb];decide)]at hJ
 refine⟨i+1,⟨hlt,hJ⟩,by omega,A4 [] ?_⟩
 simp only[seval,go_sem,DM.fn]
theorem KF5{p:Prop}(h:p:=by intro p;first|rfl|exact Lt _|exact Rb _):p:=h
noncomputable def D2{X:Ctx}{w0:World}:Sy.Spec Tryz.prog X w0:=E2 101 Tryz.call101 WI _ _ KF5 xL
def Mg(f:Fn):Ex->Bool
 | .nil=>false
 | .mk k _ s _ _=>k==1&&AH f s==2
abbrev eW(f:Fn)(e:Ex):Prop:=okF f
abbrev QX(f:Fn)(e:Ex):SV:=.one (.v (.bool (Mg f e)))
noncomputable abbrev QY:ArgC ((Fn)×(Ex)×Unit):=(acS (cFn) (acS (cEx) ac0))
abbrev eX:Prop:=Cu Tryz.prog 102 QY (λp:(Fn)×(Ex)×Unit=>eW p.1 p.2.1) (λp:(Fn)×(Ex)×Unit=>QX p.1 p.2.1)
attribute[local go_sem] Fn.c CS CR CA CP CQ AF AE Ab AB AA AN D2 in
theorem gu:eX:=by
 rintro ⟨f,e,_u⟩ w fz xs hc hfz hl hx
 refine Bu Tryz.func102 rfl w fz [D2] [] QY (λp:(Fn)×(Ex)×Unit=>QX p.1 p.2.1) _ xs hfz hl hx (jN rfl) ?_
 clear hx hl hfz xs
 simp only[Tryz.f102]
 have hc1:okF f:=hc
 cases e with
 |nil=>
  simp only[seval,go_sem,BQ]
  try simp only[A2,A3]
  try exact xG
 |mk k n s a b=>
 simp only[seval,go_sem,EN]
 try simp only[A2,A3]
 try exact xG
noncomputable def CX{X:Ctx}{w0:World}:Sy.Spec Tryz.prog X w0:=E2 102 Tryz.call102 QY _ _ KF5 gu
def D3(f:Fn):Ex->Bool
 | .nil=>true
 | .mk k _ s a b=>if (k==1)=true then AH f s != 2 else D3 f a&&D3 f b
def J6(f:Fn):Cd->Bool
 | .nil=>true
 | .mk k a b p q s=>if (k==9)=true then AH f s==2 else D3 f a&&D3 f b&&J6 f p&&J6 f q
abbrev rX(n:Nat)(f:Fn)(e:Ex):Prop:=okF f/\e.dp<n
abbrev Sj(n:Nat)(f:Fn)(e:Ex):SV:=.one (.v (.bool (D3 f e)))
noncomputable abbrev WJ:ArgC ((Fn)×(Ex)×Unit):=(acS (cFn) (acS (cEx) ac0))
abbrev Sk(n:Nat):Prop:=Cu Tryz.prog 103 WJ (λp:(Fn)×(Ex)×Unit=>rX n p.1 p.2.1) (λp:(Fn)×(Ex)×Unit=>Sj n p.1 p.2.1)
noncomputable def DQ{X:Ctx}{w0:World}(n:Nat)(h:Sk n):Sy.Spec Tryz.prog X w0:=E2 103 Tryz.call103 WJ _ _ KF5 h
attribute[local go_sem] Fn.c CS CR CA CP CQ AF AE Ab AB AA AN DQ D2 in
theorem rY(n:Nat)(hu:Sk n):Sk (n+1):=by
 rintro ⟨f,e,_u⟩ w fz xs hc hfz hl hx
 refine Bu Tryz.func103 rfl w fz [D2,(DQ n hu)] [] WJ (λp:(Fn)×(Ex)×Unit=>Sj (n+1) p.1 p.2.1) _ xs hfz hl hx (jN rfl) ?_
 clear hx hl hfz xs
 simp only[Tryz.f103]
 obtain⟨hc1,hc2⟩:=hc
 dsimp only at hc1 hc2
 cases e with
 |nil=>
  simp only[seval,go_sem,BQ]
  try simp only[A2,A3]
  repeat' first|exact ck|with_reducible apply And.intro|intro _
  all_goals first|exact hc1|exact KZ|(refine A1 [] ?_;simp only[seval,go_sem,bne,Sj,D3])
 |mk k n' s a b=>
 simp only[Ex.dp]at hc2
 cases hk:(k==1) with
 |true=>
  simp only[seval,go_sem,EN,hk]
  try simp only[A2,A3]
  try exact xH
 |false=>
 simp only[seval,go_sem,EN,hk]
 try simp only[A2,A3]
 try exact xH
theorem V1:∀n:Nat,Sk n
 |0=>by
  rintro ⟨f,e,_u⟩ w fz xs hc hfz hl hx
  exact absurd hc.2 (Nat.not_lt_zero _)
 |n+1=>rY n (V1 n)
abbrev lr(n:Nat)(f:Fn)(e:Cd):Prop:=okF f/\e.dp<n
abbrev QZ(n:Nat)(f:Fn)(e:Cd):SV:=.one (.v (.bool (J6 f e)))
noncomputable abbrev UB:ArgC ((Fn)×(Cd)×Unit):=(acS (cFn) (acS (cCd) ac0))
abbrev Qa(n:Nat):Prop:=Cu Tryz.prog 104 UB (λp:(Fn)×(Cd)×Unit=>lr n p.1 p.2.1) (λp:(Fn)×(Cd)×Unit=>QZ n p.1 p.2.1)
noncomputable def D8{X:Ctx}{w0:World}(n:Nat)(h:Qa n):Sy.Spec Tryz.prog X w0:=E2 104 Tryz.call104 UB _ _ KF5 h
attribute[local go_sem] Fn.c CS CR CA CP CQ AF AE Ab AB AA AN D8 DQ D2 in
theorem lu(n:Nat)(hu:Qa n):Qa (n+1):=by
 rintro ⟨f,e,_u⟩ w fz xs hc hfz hl hx
 refine Bu Tryz.func104 rfl w fz [D2,(DQ n (V1 n)),(D8 n hu)] [] UB (λp:(Fn)×(Cd)×Unit=>QZ (n+1) p.1 p.2.1) _ xs hfz hl hx (jN rfl) ?_
 clear hx hl hfz xs
 simp only[Tryz.f104]
 obtain⟨hc1,hc2⟩:=hc
 dsimp only at hc1 hc2
 cases e with
 |nil=>
  simp only[seval,go_sem,Bw]
  try simp only[A2,A3]
  repeat' first|exact ck|with_reducible apply And.intro|intro _
  all_goals first|exact hc1|exact KZ|(refine A1 [] ?_;simp only[seval,go_sem,bne,QZ,J6])
 |mk k a b p q s=>
 simp only[Cd.dp]at hc2
 cases hk:(k==9) with
 |true=>
  simp only[seval,go_sem,E3,hk]
  try simp only[A2,A3]
  try exact xI
 |false=>
 simp only[seval,go_sem,E3,hk]
 try simp only[A2,A3]
 try exact xI
theorem WK:∀n:Nat,Qa n
 |0=>by
  rintro ⟨f,e,_u⟩ w fz xs hc hfz hl hx
  exact absurd hc.2 (Nat.not_lt_zero _)
 |n+1=>lu n (WK n)
end Go.Proofs.YtapedeoheilnnaaGreat
