/- Codings of trees, statements, functions. No conditions but those in each statement. -/
import Derived.Test.YtapedeoheilnnaaGreatAt
import Derived.Test.YtapedeoheilnnaaGreatMi1
set_option linter.all false
set_option maxRecDepth 20000
set_option maxHeartbeats 8000000
namespace Go.Proofs.YtapedeoheilnnaaGreat
open Go Go.Sy Go.RowKit
theorem we{P:Prop}(h:P:=by
 rcases h with rfl|⟨h1,h2⟩
 .rcases h' with h|⟨h3,h4⟩
  .simp only[C.d.injEq,D.sl.injEq]at h;exact h.2
  cases h3
 obtain rfl:=TB h1
 rcases h' with h|⟨h3,h4⟩
 .cases h
 obtain⟨_,he⟩:=MO h2
 obtain⟨_,he'⟩:=MO h4
 simp only[C.d.injEq,D.sl.injEq]at he he'
 rw[he.2,he'.2]):P:=h
theorem GH{c:C}{z z':List D}{es es':List (List D)}(h:leC c (.d (.sl z es)))(h':leC c (.d (.sl z' es'))):es=es':=by
 exact we
theorem M9{c:C}{x y:Value}(h:leC c (.v x))(h':leC c (.v y)):x=y:=by
 rcases h with rfl|⟨_,h2⟩
 .rcases h' with h|⟨_,h4⟩
  .simpa using h
  cases h4
 cases h2
theorem VH{c:C}{d d':D}(hd:∀z,oD d≠.d (.sl z []))(hd':∀z,oD d'≠.d (.sl z []))(h:leC c (oD d))(h':leC c (oD d')):oD d=oD d':=by
 rcases h with rfl|⟨_,h2⟩
 .rcases h' with h|⟨_,h4⟩
  .exact h
  obtain⟨z,h⟩:=MO h4;exact absurd h (hd' z)
 obtain⟨z,h⟩:=MO h2;exact absurd h (hd z)
theorem iS{a b:D}(h:oD a=oD b):a=b:=by cases a<;>cases b<;>simp_all [oD]
theorem WW{a b:Ex}(h:exC a=exC b):a=b:=L3 (iS h)
theorem cr{a b:Cd}(h:cdC a=cdC b):a=b:=U7 (iS h)
theorem Pn(e:Ex):∀z,oD e.d≠.d (.sl z []):=by intro z;cases e<;>simp[Ex.d,oD]
theorem VI(e:Cd):∀z,oD e.d≠.d (.sl z []):=by intro z;cases e<;>simp[Cd.d,oD]
noncomputable def cEx:Cod Ex:=Hl (λe=>.one (exC e)) (λv a b h h'=>by
 cases v with
 |one c=>exact WW (VH (Pn a) (Pn b) h h')
 |agg l=>exact h.elim
 |tup l=>exact h.elim) (λe=>M2 e)
theorem Bi(e:Ex):cEx.e e= .one (exC e):=rfl
theorem Be(e:Ex):cEx.d (.one (exC e))=some e:=E4 (e:=λe=>.one (exC e)) (F4 _)
theorem Bj:cEx.d (.one (.v (.pointer none)))=some .nil:=Be .nil
noncomputable def cCd:Cod Cd:=Hl (λe=>.one (cdC e)) (λv a b h h'=>by
 cases v with
 |one c=>exact cr (VH (VI a) (VI b) h h')
 |agg l=>exact h.elim
 |tup l=>exact h.elim) (λe=>Rl e)
theorem Bk(e:Cd):cCd.e e= .one (cdC e):=rfl
theorem Bl(e:Cd):cCd.d (.one (cdC e))=some e:=E4 (e:=λe=>.one (cdC e)) (F4 _)
theorem A2v(v:SV)(a b:Fn)(h:leV v (.agg a.c))(h':leV v (.agg b.c)):a=b:=by
 cases v with
 |one c=>exact h.elim
 |tup l=>exact h.elim
 |agg l=>
 obtain⟨n,ps,ls,bd⟩:=a
 obtain⟨n',ps',ls',bd'⟩:=b
 match l,h,h' with
 |[c0,c1,c2,c3],⟨h0,h1,h2,h3,_⟩,⟨g0,g1,g2,g3,_⟩=>
  have e0:=M9 h0 g0
  simp only[Value.string.injEq]at e0
  have k0:=bs_inj e0
  have k1:=Aj Og (GH h1 g1)
  have k2:=Aj Og (GH h2 g2)
  have k3:=Aj Mh (GH h3 g3)
  simp only at k0 k1 k2 k3
  subst k0;subst k1;subst k2;subst k3;rfl
noncomputable def cFn:Cod Fn:=Hl (λf=>.agg f.c) A2v (λf=>rfl)
theorem A8(f:Fn):cFn.e f= .agg f.c:=rfl
theorem A9(n:List UInt8)(ps ls:List Vr)(bd:List Sm):cFn.d (.agg [.v (.string (bs n)),.d (.sl zVr (ps.map Vr.r)),.d (.sl zVr (ls.map Vr.r)),.d (.sl zSm (bd.map Sm.r))])=some ⟨n,ps,ls,bd⟩:=E4 (e:=λf:Fn=>.agg f.c) (a:=⟨n,ps,ls,bd⟩) (F4 _)
theorem AM(f:Fn):(⟨f.name,f.ps,f.ls,f.body⟩:Fn)=f:=rfl
theorem Gr(l:List Vr):(l.map Vr.r).map (λr=>r.map oD)=l.map Vr.c:=by rw[List.map_map];rfl
theorem fG{l:List Vr}{i:Nat}{x:Vr}(h:l[i]?=some x):(l.map Vr.c).getD i [.v (.string (bs [])),.v (.bool false)]=x.c:=by simp[List.getD,h]
theorem ct(a:Vr):∀c∈a.c,C.stor c=true:=by
 intro c hc;simp only[Vr.c,List.mem_cons,List.not_mem_nil,or_false]at hc;rcases hc with rfl|rfl<;>rfl
theorem A4{A B:Type}(x:Option A):U4 x (none:Option B)=none:=by cases x<;>rfl
theorem A5{A B:Type}(x:Option B):U4 (none:Option A) x=none:=rfl
theorem AF{A:Type}(Cd:A->Prop)(F:A->SV):Pf (none:Option A) Cd F=none:=rfl
def Ex.dp:Ex->Nat
 | .nil=>0
 | .mk _ _ _ a b=>max a.dp b.dp+1
def Cd.dp:Cd->Nat
 | .nil=>0
 | .mk _ a b p q _=>max (max a.dp b.dp) (max p.dp q.dp)+1
theorem A2w(v:SV)(a b:Sm)(h:leV v (.agg a.c))(h':leV v (.agg b.c)):a=b:=by
 cases v with
 |one c=>exact h.elim
 |tup l=>exact h.elim
 |agg l=>
 obtain⟨k,x,y,e,f,cd,ar,th,el,no⟩:=a
 obtain⟨k',x',y',e',f',cd',ar',th',el',no'⟩:=b
 match l,h,h' with
 |[c0,c1,c2,c3,c4,c5,c6,c7,c8,c9],⟨h0,h1,h2,h3,h4,h5,h6,h7,h8,h9,_⟩,⟨g0,g1,g2,g3,g4,g5,g6,g7,g8,g9,_⟩=>
  have e0:=M9 h0 g0
  have e1:=M9 h1 g1
  have e2:=M9 h2 g2
  have e9:=M9 h9 g9
  simp only[Value.string.injEq,Value.int.injEq,true_and]at e0 e1 e2 e9
  have k1:=bs_inj e1
  have k2:=bs_inj e2
  have k3:=WW (VH (Pn _) (Pn _) h3 g3)
  have k4:=WW (VH (Pn _) (Pn _) h4 g4)
  have k5:=cr (VH (VI _) (VI _) h5 g5)
  have k6:=Aj lQ (GH h6 g6)
  have k7:=Aj Mh (GH h7 g7)
  have k8:=Aj Mh (GH h8 g8)
  simp only[Sm.k,Sm.x,Sm.y,Sm.e,Sm.f,Sm.cd,Sm.ar,Sm.th,Sm.el,Sm.no]at e0 k1 k2 k3 k4 k5 k6 k7 k8 e9
  subst e0;subst k1;subst k2;subst k3;subst k4;subst k5;subst k6;subst k7;subst k8;subst e9;rfl
noncomputable def cSm:Cod Sm:=Hl (λs=>.agg s.c) A2w (λs=>List.flatMap_eq_nil_iff.2 (Hk.nm s))
theorem CJ(s:Sm):cSm.e s= .agg s.c:=rfl
theorem xx(s:Sm):cSm.d (.agg s.c)=some s:=E4 (e:=λs:Sm=>.agg s.c) (F4 _)
theorem CK(k no:Int)(x y:List UInt8)(e f:Ex)(cd:Cd)(ar:List Ar)(th el:List Sm):cSm.d (.agg [.v (.int .i64 k),.v (.string (bs x)),.v (.string (bs y)),exC e,exC f,cdC cd,.d (.sl zAr (ar.map Ar.r)),.d (.sl zSm (th.map Sm.r)),.d (.sl zSm (el.map Sm.r)),.v (.int .i64 no)])=some (.mk k x y e f cd ar th el no):=xx (.mk k x y e f cd ar th el no)
theorem Cx(k n:Int)(s:List UInt8)(a b:Ex):cEx.d (.one (.d (.pt (some [.v (.int .i64 k),.v (.int .i64 n),.v (.string (bs s)),a.d,b.d]))))=some (.mk k n s a b):=Be (.mk k n s a b)
theorem xy(s:Sm)(b:Bool):(SV.tup [.inr s.c,.inl (.v (.bool b))]).names=[]:=by
 have h:pNames (.inr s.c)=[]:=List.flatMap_eq_nil_iff.2 (Hk.nm s)
 simp only[SV.names,List.flatMap_cons,List.flatMap_nil,h];rfl
theorem CE(l:List Ar):(l.map Ar.r).map (λr=>r.map oD)=l.map Ar.c:=by rw[List.map_map];rfl
theorem A2x{l:List Ar}{i:Nat}{x:Ar}(h:l[i]?=some x):(l.map Ar.c).getD i [.v (.bool false),.v (.string (bs [])),.v (.pointer none)]=x.c:=by simp[List.getD,h]
def fl4:List C:=[.v (.bool false),.v (.bool false),.v (.bool false),.v (.bool false)]
def C3:List C:=[.v (.bool false),.v (.bool false),.v (.bool false),.v (.bool false),.v (.bool false),.v (.bool false),.v (.bool false),.v (.bool false),.v (.bool false),.v (.bool false)]
structure OkS(n:Nat)(s:Sm):Prop where
 e:s.e.dp<n
 f:s.f.dp<n
 c:s.cd.dp<n
 a:∀a∈s.ar,a.e.dp<n
 l:s.ar.length<=5000
noncomputable def cSs:Cod (List Sm):=Hl (λl=>.one (.d (.sl zSm (l.map Sm.r)))) (λv a b h h'=>by
 cases v with
 |one c=>exact Aj Mh (GH h h')
 |agg l=>exact h.elim
 |tup l=>exact h.elim) (λl=>rfl)
theorem DI(l:List Sm):cSs.e l= .one (.d (.sl zSm (l.map Sm.r))):=rfl
theorem DJ(l:List Sm):cSs.d (.one (.d (.sl zSm (l.map Sm.r))))=some l:=E4 (e:=λl:List Sm=>.one (.d (.sl zSm (l.map Sm.r)))) (F4 _)
def okB(n:Nat):Nat->List Sm->Prop
 |0,_=>False
 |m+1,l=>l.length<=5000/\∀s∈l,OkS n s/\okB n m s.th/\okB n m s.el
theorem Sz{n m:Nat}{l:List Sm}(h:okB n m l):okB n m []:=by
 cases m with
 |zero=>exact h.elim
 |succ m=>exact⟨Nat.zero_le _,λs hs=>by cases hs⟩
def okF(f:Fn):Prop:=f.ps.length<=5000/\f.ls.length<=5000
def El(nm:List UInt8):List Vr->Int
 |[]=>0
 |v::l=>if (v.s==nm)=true then (if v.p=true then 2 else 1) else El nm l
def AK(f:Fn)(nm:List UInt8):Int:=El nm (f.ps++f.ls)
abbrev sU(f:Fn)(nm:List UInt8):Prop:=okF f
abbrev Po(f:Fn)(nm:List UInt8):SV:=.one (.v (.int .i64 (AK f nm)))
noncomputable abbrev WX:ArgC ((Fn)×(List UInt8)×Unit):=(acS (cFn) (acS (cStr) ac0))
abbrev sV:Prop:=Ca Tryz.prog 101 WX (λp:(Fn)×(List UInt8)×Unit=>sU p.1 p.2.1) (λp:(Fn)×(List UInt8)×Unit=>Po p.1 p.2.1)
theorem xz:sV:=by
 rintro ⟨f,nm,_u⟩ w fz xs hc hfz hl hx
 refine Bg Tryz.func101 rfl w fz [] [] WX (λp:(Fn)×(List UInt8)×Unit=>Po p.1 p.2.1) _ xs hfz hl hx (jN rfl) ?_
 clear hx hl hfz xs
 simp only[Tryz.f101]
 obtain⟨hc1,hc2⟩:=hc
 dsimp only at hc1 hc2
 simp only[seval,go_sem,A8,A9,Bi,Be,Bj,Bk,Bl,Fn.c,AM,A4,A5,AF,Gr]
 refine⟨⟨λq h=>(by cases h;rfl),Y5 _ ct _,by omega,by omega⟩,⟨λq h=>(by cases h;rfl),Y5 _ ct _,by omega,by omega⟩,Bn (by kernel_rfl),?_⟩
 refine AC (Y:=Nat) (λi=>i<=(f.ps++f.ls).length/\El nm ((f.ps++f.ls).drop i)=AK f nm)
  (λi=>⟨[(1,true,.one (.v (.string (bs nm)))),(5,true,.one (.s 1000)),(6,true,.one (.v (.int .i64 (i:Int))))],[(1000,.vec 0 zVc ((f.ps++f.ls).map Vr.c))]⟩)
  (λi=>(f.ps++f.ls).length-i) 0 ⟨Nat.zero_le _,rfl⟩ ?_ ?_
 .refine A2 [.mv 12 1000] ?_;simp only[seval,go_sem,Dd.mv,Dd.fn,zVc,List.map_append,List.flatMap_append]
 rintro i ⟨hi,hJ⟩
 refine AP [] [] _ _ _ ?_
 have hsm:(f.ps++f.ls).length<=4294967296:=by simp only[List.length_append];omega
 generalize f.ps++f.ls=L at hi hJ hsm ⊢
 cases hx:L[i]? with
 |none=>
  have hi2:L.length<=i:=List.getElem?_eq_none_iff.1 hx
  have h1:=Ai hi2
  rw[List.drop_eq_nil_of_le hi2]at hJ
  have hR:AK f nm=0:=hJ.symm
  simp only[seval,go_sem,h1]
  refine A1 [] ?_;simp only[seval,go_sem,bne,Po,hR]
 |some x=>
 have hlt:i<L.length:=(List.getElem?_eq_some_iff.1 hx).1
 have h1:=Ah hlt
 have h2:=GU hlt
 have h3:=fG hx
 have h4:=FH hi hsm
 rw[BF hx]at hJ
 simp only[El]at hJ
 simp only[seval,go_sem,h1,h2,h3,h4,zVc,Vr.c]
 simp only[AD,AE]
 refine⟨hlt,hlt,λhb=>⟨hlt,hlt,λhc=>?_,λhc=>?_⟩,λhb=>?_⟩
 .rw[if_pos hb,if_pos hc]at hJ
  refine A1 [] ?_;simp only[seval,go_sem,bne,Po,<- hJ]
 .rw[if_pos hb,if_neg (by rw[hc];decide)]at hJ
  refine A1 [] ?_;simp only[seval,go_sem,bne,Po,<- hJ]
 rw[if_neg (by rw[hb];decide)]at hJ
 refine⟨i+1,⟨hlt,hJ⟩,by omega,A2 [] ?_⟩
 simp only[seval,go_sem,Dd.fn]
theorem KF5{p:Prop}(h:p:=by intro p;first|rfl|exact M2 _|exact Rl _):p:=h
noncomputable def DD{X:Ctx}{w0:World}:Sy.Spec Tryz.prog X w0:=Dq 101 Tryz.call101 WX _ _ KF5 xz
def Ld(f:Fn):Ex->Bool
 | .nil=>false
 | .mk k _ s _ _=>k==1&&AK f s==2
abbrev fH(f:Fn)(e:Ex):Prop:=okF f
abbrev Mz(f:Fn)(e:Ex):SV:=.one (.v (.bool (Ld f e)))
noncomputable abbrev Qt:ArgC ((Fn)×(Ex)×Unit):=(acS (cFn) (acS (cEx) ac0))
abbrev fJ:Prop:=Ca Tryz.prog 102 Qt (λp:(Fn)×(Ex)×Unit=>fH p.1 p.2.1) (λp:(Fn)×(Ex)×Unit=>Mz p.1 p.2.1)
attribute[local go_sem] Fn.c Bl Bk Be Bi Bj A9 A8 AM A5 A4 AF DD in
theorem iT:fJ:=by
 rintro ⟨f,e,_u⟩ w fz xs hc hfz hl hx
 refine Bg Tryz.func102 rfl w fz [DD] [] Qt (λp:(Fn)×(Ex)×Unit=>Mz p.1 p.2.1) _ xs hfz hl hx (jN rfl) ?_
 clear hx hl hfz xs
 simp only[Tryz.f102]
 have hc1:okF f:=hc
 cases e with
 |nil=>
  simp only[seval,go_sem,Af]
  repeat refine AX ?_
  refine A1 [] ?_;simp only[seval,go_sem,bne,Mz,Ld]
 |mk k n s a b=>
 simp only[seval,go_sem,EU]
 repeat refine AX ?_
 refine A1 [] ?_;simp only[seval,go_sem,bne,Mz,Ld]
noncomputable def Cl{X:Ctx}{w0:World}:Sy.Spec Tryz.prog X w0:=Dq 102 Tryz.call102 Qt _ _ KF5 iT
def D9(f:Fn):Ex->Bool
 | .nil=>true
 | .mk k _ s a b=>if (k==1)=true then AK f s != 2 else D9 f a&&D9 f b
def J2(f:Fn):Cd->Bool
 | .nil=>true
 | .mk k a b p q s=>if (k==9)=true then AK f s==2 else D9 f a&&D9 f b&&J2 f p&&J2 f q
abbrev sW(n:Nat)(f:Fn)(e:Ex):Prop:=okF f/\e.dp<n
abbrev Pp(n:Nat)(f:Fn)(e:Ex):SV:=.one (.v (.bool (D9 f e)))
noncomputable abbrev WY:ArgC ((Fn)×(Ex)×Unit):=(acS (cFn) (acS (cEx) ac0))
abbrev T1(n:Nat):Prop:=Ca Tryz.prog 103 WY (λp:(Fn)×(Ex)×Unit=>sW n p.1 p.2.1) (λp:(Fn)×(Ex)×Unit=>Pp n p.1 p.2.1)
noncomputable def De{X:Ctx}{w0:World}(n:Nat)(h:T1 n):Sy.Spec Tryz.prog X w0:=Dq 103 Tryz.call103 WY _ _ KF5 h
attribute[local go_sem] Fn.c Bl Bk Be Bi Bj A9 A8 AM A5 A4 AF De DD in
theorem sX(n:Nat)(hu:T1 n):T1 (n+1):=by
 rintro ⟨f,e,_u⟩ w fz xs hc hfz hl hx
 refine Bg Tryz.func103 rfl w fz [DD,(De n hu)] [] WY (λp:(Fn)×(Ex)×Unit=>Pp (n+1) p.1 p.2.1) _ xs hfz hl hx (jN rfl) ?_
 clear hx hl hfz xs
 simp only[Tryz.f103]
 obtain⟨hc1,hc2⟩:=hc
 dsimp only at hc1 hc2
 cases e with
 |nil=>
  simp only[seval,go_sem,Af]
  repeat refine AX ?_
  refine A1 [] ?_;simp only[seval,go_sem,bne,Pp,D9]
 |mk k n' s a b=>
 simp only[Ex.dp]at hc2
 cases hk:(k==1) with
 |true=>
  simp only[seval,go_sem,EU,hk]
  repeat refine AX ?_
  refine A1 [] ?_;simp only[seval,go_sem,bne,Pp,D9,hk]
 |false=>
 simp only[seval,go_sem,EU,hk]
 repeat refine AX ?_
 refine A1 [] ?_;simp only[seval,go_sem,bne,Pp,D9,hk]
theorem VJ:∀n:Nat,T1 n
 |0=>by
  rintro ⟨f,e,_u⟩ w fz xs hc hfz hl hx
  exact absurd hc.2 (Nat.not_lt_zero _)
 |n+1=>sX n (VJ n)
abbrev mW(n:Nat)(f:Fn)(e:Cd):Prop:=okF f/\e.dp<n
abbrev Nz(n:Nat)(f:Fn)(e:Cd):SV:=.one (.v (.bool (J2 f e)))
noncomputable abbrev UT:ArgC ((Fn)×(Cd)×Unit):=(acS (cFn) (acS (cCd) ac0))
abbrev Qu(n:Nat):Prop:=Ca Tryz.prog 104 UT (λp:(Fn)×(Cd)×Unit=>mW n p.1 p.2.1) (λp:(Fn)×(Cd)×Unit=>Nz n p.1 p.2.1)
noncomputable def DO{X:Ctx}{w0:World}(n:Nat)(h:Qu n):Sy.Spec Tryz.prog X w0:=Dq 104 Tryz.call104 UT _ _ KF5 h
attribute[local go_sem] Fn.c Bl Bk Be Bi Bj A9 A8 AM A5 A4 AF DO De DD in
theorem mY(n:Nat)(hu:Qu n):Qu (n+1):=by
 rintro ⟨f,e,_u⟩ w fz xs hc hfz hl hx
 refine Bg Tryz.func104 rfl w fz [DD,(De n (VJ n)),(DO n hu)] [] UT (λp:(Fn)×(Cd)×Unit=>Nz (n+1) p.1 p.2.1) _ xs hfz hl hx (jN rfl) ?_
 clear hx hl hfz xs
 simp only[Tryz.f104]
 obtain⟨hc1,hc2⟩:=hc
 dsimp only at hc1 hc2
 cases e with
 |nil=>
  simp only[seval,go_sem,BD]
  repeat refine AX ?_
  refine A1 [] ?_;simp only[seval,go_sem,bne,Nz,J2]
 |mk k a b p q s=>
 simp only[Cd.dp]at hc2
 cases hk:(k==9) with
 |true=>
  simp only[seval,go_sem,EF,hk]
  repeat refine AX ?_
  refine A1 [] ?_;simp only[seval,go_sem,bne,Nz,J2,hk]
 |false=>
 simp only[seval,go_sem,EF,hk]
 repeat refine AX ?_
 refine A1 [] ?_;simp only[seval,go_sem,bne,Nz,J2,hk]
theorem WZ:∀n:Nat,Qu n
 |0=>by
  rintro ⟨f,e,_u⟩ w fz xs hc hfz hl hx
  exact absurd hc.2 (Nat.not_lt_zero _)
 |n+1=>mY n (WZ n)
end Go.Proofs.YtapedeoheilnnaaGreat
