/- Codings of trees, statements, functions. No conditions but those in each statement. -/
import Derived.Test.YtjnnmindcbgjhaaAt
import Derived.Test.YtjnnmindcbgjhaaMi1
set_option linter.unusedVariables false
set_option linter.unusedSimpArgs false
set_option maxRecDepth 20000
set_option maxHeartbeats 8000000
namespace Go.Proofs.Ytjnnmindcbgjhaa
open Go Go.Sy Go.RowKit
theorem F0 {c:C} {z z':List D} {es es':List (List D)} (h:leC c (.d (.sl z es))) (h':leC c (.d (.sl z' es'))):es=es':=by
 rcases h with rfl|⟨h1,h2⟩
 ·rcases h' with h|⟨h3,h4⟩
  ·simp only[C.d.injEq,D.sl.injEq]at h;exact h.2
  ·cases h3
 ·obtain rfl:=S7 h1
  rcases h' with h|⟨h3,h4⟩
  ·cases h
  ·obtain⟨_,he⟩:=MC h2
   obtain⟨_,he'⟩:=MC h4
   simp only[C.d.injEq,D.sl.injEq]at he he'
   rw[he.2,he'.2]
theorem Ls {c:C} {x y:Value} (h:leC c (.v x)) (h':leC c (.v y)):x=y:=by
 rcases h with rfl|⟨_,h2⟩
 ·rcases h' with h|⟨_,h4⟩
  ·simpa using h
  ·cases h4
 ·cases h2
theorem TR {c:C} {d d':D} (hd:∀z,oD d≠.d (.sl z [])) (hd':∀z,oD d'≠.d (.sl z [])) (h:leC c (oD d)) (h':leC c (oD d')):oD d=oD d':=by
 rcases h with rfl|⟨_,h2⟩
 ·rcases h' with h|⟨_,h4⟩
  ·exact h
  ·obtain⟨z,h⟩:=MC h4;exact absurd h (hd' z)
 ·obtain⟨z,h⟩:=MC h2;exact absurd h (hd z)
theorem cR {a b:D} (h:oD a=oD b):a=b:=by cases a<;>cases b<;>simp_all [oD]
theorem UW {a b:Ex} (h:exC a=exC b):a=b:=KA (cR h)
theorem Yq {a b:Cd} (h:cdC a=cdC b):a=b:=Re (cR h)
theorem Oj (e:Ex):∀z,oD e.d≠.d (.sl z []):=by intro z;cases e<;>simp[Ex.d,oD]
theorem TS (e:Cd):∀z,oD e.d≠.d (.sl z []):=by intro z;cases e<;>simp[Cd.d,oD]
noncomputable def cEx:Cod Ex:=Gn (fun e=>.one (exC e)) (fun v a b h h'=>by
 cases v with
 |one c=>exact UW (TR (Oj a) (Oj b) h h')
 |agg l=>exact h.elim
 |tup l=>exact h.elim) (fun e=>Fp e)
theorem BN (e:Ex):cEx.e e= .one (exC e):=rfl
theorem BH (e:Ex):cEx.d (.one (exC e))=some e:=D9 (e:=fun e=>.one (exC e)) (Dp _)
theorem BO:cEx.d (.one (.v (.pointer none)))=some .nil:=BH .nil
noncomputable def cCd:Cod Cd:=Gn (fun e=>.one (cdC e)) (fun v a b h h'=>by
 cases v with
 |one c=>exact Yq (TR (TS a) (TS b) h h')
 |agg l=>exact h.elim
 |tup l=>exact h.elim) (fun e=>HQ e)
theorem BP (e:Cd):cCd.e e= .one (cdC e):=rfl
theorem BJ (e:Cd):cCd.d (.one (cdC e))=some e:=D9 (e:=fun e=>.one (cdC e)) (Dp _)
theorem BQ:cCd.d (.one (.v (.pointer none)))=some .nil:=BJ .nil
theorem A0T (v:SV) (a b:Fn) (h:leV v (.agg a.c)) (h':leV v (.agg b.c)):a=b:=by
 cases v with
 |one c=>exact h.elim
 |tup l=>exact h.elim
 |agg l=>
  obtain⟨n,ps,ls,bd⟩:=a
  obtain⟨n',ps',ls',bd'⟩:=b
  match l,h,h' with
  |[c0,c1,c2,c3],⟨h0,h1,h2,h3,_⟩,⟨g0,g1,g2,g3,_⟩=>
   have e0:=Ls h0 g0
   simp only[Value.string.injEq]at e0
   have k0:=bs_inj e0
   have k1:=Az Qn (F0 h1 g1)
   have k2:=Az Qn (F0 h2 g2)
   have k3:=Az NC (F0 h3 g3)
   simp only at k0 k1 k2 k3
   subst k0;subst k1;subst k2;subst k3;rfl
noncomputable def cFn:Cod Fn:=Gn (fun f=>.agg f.c) A0T (fun f=>rfl)
theorem AE (f:Fn):cFn.e f= .agg f.c:=rfl
theorem AF (n:List UInt8) (ps ls:List Vr) (bd:List Sm):cFn.d (.agg [.v (.string (bs n)),.d (.sl zVr (ps.map Vr.r)),.d (.sl zVr (ls.map Vr.r)),.d (.sl zSm (bd.map Sm.r))])=some ⟨n,ps,ls,bd⟩:=D9 (e:=fun f:Fn=>.agg f.c) (a:=⟨n,ps,ls,bd⟩) (Dp _)
theorem AY (f:Fn):(⟨f.name,f.ps,f.ls,f.body⟩:Fn)=f:=rfl
theorem Fo (l:List Vr):(l.map Vr.r).map (fun r=>r.map oD)=l.map Vr.c:=by rw[List.map_map];rfl
theorem aS {l:List Vr} {i:Nat} {x:Vr} (h:l[i]?=some x):(l.map Vr.c).getD i [.v (.string (bs [])),.v (.bool false)]=x.c:=by simp[List.getD,h]
theorem Yr (a:Vr):∀c∈a.c,C.stor c=true:=by
 intro c hc;simp only[Vr.c,List.mem_cons,List.not_mem_nil,or_false]at hc;rcases hc with rfl|rfl<;>rfl
theorem AA {A B:Type} (x:Option A):SL x (none:Option B)=none:=by cases x<;>rfl
theorem AB {A B:Type} (x:Option B):SL (none:Option A) x=none:=rfl
theorem AK {A:Type} (Cd:A→Prop) (F:A→SV):Od (none:Option A) Cd F=none:=rfl
def Ex.dp:Ex→Nat
 | .nil=>0
 | .mk _ _ _ a b=>max a.dp b.dp+1
def Cd.dp:Cd→Nat
 | .nil=>0
 | .mk _ a b p q _=>max (max a.dp b.dp) (max p.dp q.dp)+1
theorem A0U (v:SV) (a b:Sm) (h:leV v (.agg a.c)) (h':leV v (.agg b.c)):a=b:=by
 cases v with
 |one c=>exact h.elim
 |tup l=>exact h.elim
 |agg l=>
  obtain⟨k,x,y,e,f,cd,ar,th,el,no⟩:=a
  obtain⟨k',x',y',e',f',cd',ar',th',el',no'⟩:=b
  match l,h,h' with
  |[c0,c1,c2,c3,c4,c5,c6,c7,c8,c9],⟨h0,h1,h2,h3,h4,h5,h6,h7,h8,h9,_⟩,⟨g0,g1,g2,g3,g4,g5,g6,g7,g8,g9,_⟩=>
   have e0:=Ls h0 g0
   have e1:=Ls h1 g1
   have e2:=Ls h2 g2
   have e9:=Ls h9 g9
   simp only[Value.string.injEq,Value.int.injEq,true_and]at e0 e1 e2 e9
   have k1:=bs_inj e1
   have k2:=bs_inj e2
   have k3:=UW (TR (Oj _) (Oj _) h3 g3)
   have k4:=UW (TR (Oj _) (Oj _) h4 g4)
   have k5:=Yq (TR (TS _) (TS _) h5 g5)
   have k6:=Az cW (F0 h6 g6)
   have k7:=Az NC (F0 h7 g7)
   have k8:=Az NC (F0 h8 g8)
   simp only[Sm.k,Sm.x,Sm.y,Sm.e,Sm.f,Sm.cd,Sm.ar,Sm.th,Sm.el,Sm.no]at e0 k1 k2 k3 k4 k5 k6 k7 k8 e9
   subst e0;subst k1;subst k2;subst k3;subst k4;subst k5;subst k6;subst k7;subst k8;subst e9;rfl
noncomputable def cSm:Cod Sm:=Gn (fun s=>.agg s.c) A0U (fun s=>List.flatMap_eq_nil_iff.2 (Gm.nm s))
theorem C9 (s:Sm):cSm.e s= .agg s.c:=rfl
theorem tx (s:Sm):cSm.d (.agg s.c)=some s:=D9 (e:=fun s:Sm=>.agg s.c) (Dp _)
theorem CA (k no:Int) (x y:List UInt8) (e f:Ex) (cd:Cd) (ar:List Ar) (th el:List Sm):cSm.d (.agg [.v (.int .i64 k),.v (.string (bs x)),.v (.string (bs y)),exC e,exC f,cdC cd,.d (.sl zAr (ar.map Ar.r)),.d (.sl zSm (th.map Sm.r)),.d (.sl zSm (el.map Sm.r)),.v (.int .i64 no)])=some (.mk k x y e f cd ar th el no):=tx (.mk k x y e f cd ar th el no)
theorem C3 (k n:Int) (s:List UInt8) (a b:Ex):cEx.d (.one (.d (.pt (some [.v (.int .i64 k),.v (.int .i64 n),.v (.string (bs s)),a.d,b.d]))))=some (.mk k n s a b):=BH (.mk k n s a b)
theorem u3 (s:Sm) (b:Bool):(SV.tup [.inr s.c,.inl (.v (.bool b))]).names=[]:=by
 have h:pNames (.inr s.c)=[]:=List.flatMap_eq_nil_iff.2 (Gm.nm s)
 simp only[SV.names,List.flatMap_cons,List.flatMap_nil,h];rfl
theorem BU (l:List Ar):(l.map Ar.r).map (fun r=>r.map oD)=l.map Ar.c:=by rw[List.map_map];rfl
theorem A0V {l:List Ar} {i:Nat} {x:Ar} (h:l[i]?=some x):(l.map Ar.c).getD i [.v (.bool false),.v (.string (bs [])),.v (.pointer none)]=x.c:=by simp[List.getD,h]
def fl4:List C:=[.v (.bool false),.v (.bool false),.v (.bool false),.v (.bool false)]
def MM:List C:=[.v (.bool false),.v (.bool false),.v (.bool false),.v (.bool false),.v (.bool false),.v (.bool false),.v (.bool false),.v (.bool false),.v (.bool false),.v (.bool false)]
structure OkS (n:Nat) (s:Sm):Prop where
 e:s.e.dp<n
 f:s.f.dp<n
 c:s.cd.dp<n
 a:∀a∈s.ar,a.e.dp<n
 l:s.ar.length≤5000
noncomputable def cSs:Cod (List Sm):=Gn (fun l=>.one (.d (.sl zSm (l.map Sm.r)))) (fun v a b h h'=>by
 cases v with
 |one c=>exact Az NC (F0 h h')
 |agg l=>exact h.elim
 |tup l=>exact h.elim) (fun l=>rfl)
theorem Cx (l:List Sm):cSs.e l= .one (.d (.sl zSm (l.map Sm.r))):=rfl
theorem Cy (l:List Sm):cSs.d (.one (.d (.sl zSm (l.map Sm.r))))=some l:=D9 (e:=fun l:List Sm=>.one (.d (.sl zSm (l.map Sm.r)))) (Dp _)
def okB (n:Nat):Nat→List Sm→Prop
 |0,_=>False
 |m+1,l=>l.length≤5000∧∀s∈l,OkS n s∧okB n m s.th∧okB n m s.el
theorem Ra {n m:Nat} {l:List Sm} (h:okB n m l):okB n m []:=by
 cases m with
 |zero=>exact h.elim
 |succ m=>exact⟨Nat.zero_le _,fun s hs=>by cases hs⟩
def okF (f:Fn):Prop:=f.ps.length≤5000∧f.ls.length≤5000
end Go.Proofs.Ytjnnmindcbgjhaa
namespace Go.Proofs.Ytjnnmindcbgjhaa
open Go Go.Sy Go.RowKit
def aT (nm:List UInt8):List Vr→Int
 |[]=>0
 |v::l=>if (v.s==nm)=true then (if v.p=true then 2 else 1) else aT nm l
def Co (f:Fn) (nm:List UInt8):Int:=aT nm (f.ps++f.ls)
abbrev Ys (f:Fn) (nm:List UInt8):Prop:=okF f
abbrev L0 (f:Fn) (nm:List UInt8):SV:=.one (.v (.int .i64 (Co f nm)))
noncomputable abbrev UX:ArgC ((Fn)×(List UInt8)×Unit):=(acS (cFn) (acS (cStr) ac0))
abbrev lg:Prop:=CY Try.prog 91 UX (fun p:(Fn)×(List UInt8)×Unit=>Ys p.1 p.2.1) (fun p:(Fn)×(List UInt8)×Unit=>L0 p.1 p.2.1)
theorem lh:∀p:(Fn)×(List UInt8)×Unit,((fun p:(Fn)×(List UInt8)×Unit=>L0 p.1 p.2.1) p).names=[]:=by intro p;first|rfl|exact Fp _|exact HQ _
theorem u4:lg:=by
 rintro ⟨f,nm,_u⟩ w fz xs hc hfz hl hx
 refine BZ Try.func91 rfl w fz [] [] UX (fun p:(Fn)×(List UInt8)×Unit=>L0 p.1 p.2.1) _ xs hfz hl hx (jN rfl) ?_
 clear hx hl hfz xs
 simp only[Try.f91]
 obtain⟨hc1,hc2⟩:=hc
 dsimp only at hc1 hc2
 simp only[↓eB,seval,go_sem,AE,AF,BN,BH,BO,BP,BJ,BQ,Fn.c,AY,AA,AB,AK,Fo]
 refine⟨⟨fun q h=>(by cases h;rfl),Vn _ Yr _,by omega,by omega⟩,⟨fun q h=>(by cases h;rfl),Vn _ Yr _,by omega,by omega⟩,C7 (by kernel_rfl),?_⟩
 refine AU (Y:=Nat) (fun i=>i≤(f.ps++f.ls).length∧aT nm ((f.ps++f.ls).drop i)=Co f nm)
  (fun i=>⟨[(1,true,.one (.v (.string (bs nm)))),(5,true,.one (.s 1000)),(6,true,.one (.v (.int .i64 (i:Int))))],[(1000,.vec 0 zVc ((f.ps++f.ls).map Vr.c))]⟩)
  (fun i=>(f.ps++f.ls).length-i) 0 ⟨Nat.zero_le _,rfl⟩ ?_ ?_
 ·refine A2 [.mv 12 1000] ?_;simp only[↓eB,seval,go_sem,CZ.mv,CZ.fn,zVc,List.map_append,List.flatMap_append]
 ·rintro i ⟨hi,hJ⟩
  refine Ak [] [] _ _ _ ?_
  have hsm:(f.ps++f.ls).length≤4294967296:=by simp only[List.length_append];omega
  generalize f.ps++f.ls=L at hi hJ hsm ⊢
  cases hx:L[i]? with
  |none=>
   have hi2:L.length≤i:=List.getElem?_eq_none_iff.1 hx
   have h1:=BA hi2
   rw[List.drop_eq_nil_of_le hi2]at hJ
   have hR:Co f nm=0:=hJ.symm
   simp only[↓eB,seval,go_sem,h1]
   refine A0 [] ?_;simp only[↓eB,seval,go_sem,bne,L0,hR]
  |some x=>
   have hlt:i<L.length:=(List.getElem?_eq_some_iff.1 hx).1
   have h1:=B9 hlt
   have h2:=FL hlt
   have h3:=aS hx
   have h4:=EE hi hsm
   rw[Bp hx]at hJ
   simp only[aT]at hJ
   simp only[↓eB,seval,go_sem,h1,h2,h3,h4,zVc,Vr.c]
   simp only[A3,A4]
   refine⟨hlt,hlt,fun hb=>⟨hlt,hlt,fun hc=>?_,fun hc=>?_⟩,fun hb=>?_⟩
   ·rw[if_pos hb,if_pos hc]at hJ
    refine A0 [] ?_;simp only[↓eB,seval,go_sem,bne,L0,← hJ]
   ·rw[if_pos hb,if_neg (by rw[hc];decide)]at hJ
    refine A0 [] ?_;simp only[↓eB,seval,go_sem,bne,L0,← hJ]
   ·rw[if_neg (by rw[hb];decide)]at hJ
    refine⟨i+1,⟨hlt,hJ⟩,by omega,A2 [] ?_⟩
    simp only[↓eB,seval,go_sem,CZ.fn]
noncomputable def CF {X:Ctx} {w0:World}:Sy.Spec Try.prog X w0:=D4 91 Try.call91 UX (fun p:(Fn)×(List UInt8)×Unit=>Ys p.1 p.2.1) (fun p:(Fn)×(List UInt8)×Unit=>L0 p.1 p.2.1) lh u4
def NA (f:Fn):Ex→Bool
 | .nil=>false
 | .mk k _ s _ _=>k==1&&Co f s==2
abbrev TT (f:Fn) (e:Ex):Prop:=okF f
abbrev J8 (f:Fn) (e:Ex):SV:=.one (.v (.bool (NA f e)))
noncomputable abbrev Pt:ArgC ((Fn)×(Ex)×Unit):=(acS (cFn) (acS (cEx) ac0))
abbrev aU:Prop:=CY Try.prog 92 Pt (fun p:(Fn)×(Ex)×Unit=>TT p.1 p.2.1) (fun p:(Fn)×(Ex)×Unit=>J8 p.1 p.2.1)
theorem aV:∀p:(Fn)×(Ex)×Unit,((fun p:(Fn)×(Ex)×Unit=>J8 p.1 p.2.1) p).names=[]:=by intro p;first|rfl|exact Fp _|exact HQ _
attribute[local go_sem] Fn.c BJ BP BQ BH BN BO AF AE AY AB AA AK CF in
theorem cT:aU:=by
 rintro ⟨f,e,_u⟩ w fz xs hc hfz hl hx
 refine BZ Try.func92 rfl w fz [CF] [] Pt (fun p:(Fn)×(Ex)×Unit=>J8 p.1 p.2.1) _ xs hfz hl hx (jN rfl) ?_
 clear hx hl hfz xs
 simp only[Try.f92]
 have hc1:okF f:=hc
 cases e with
 |nil=>
  simp only[↓eB,seval,go_sem,AZ]
  try simp only[A3,A4]
  repeat' first|exact ck|with_reducible apply And.intro|intro _
  all_goals first|exact hc1|(rename_i h;first|exact oI h|exact nah h)|(rename_i _ h _ g;exact sL h g)|decide|omega|(refine A0 [] ?_;simp only[↓eB,seval,go_sem,bne,J8,NA])
 |mk k n s a b=>
  simp only[↓eB,seval,go_sem,DL]
  try simp only[A3,A4]
  repeat' first|exact ck|with_reducible apply And.intro|intro _
  all_goals first|exact hc1|(rename_i h;first|exact oI h|exact nah h)|(rename_i _ h _ g;exact sL h g)|decide|omega|(refine A0 [] ?_;simp only[↓eB,seval,go_sem,bne,J8,NA])
noncomputable def Bu {X:Ctx} {w0:World}:Sy.Spec Try.prog X w0:=D4 92 Try.call92 Pt (fun p:(Fn)×(Ex)×Unit=>TT p.1 p.2.1) (fun p:(Fn)×(Ex)×Unit=>J8 p.1 p.2.1) aV cT
def FC (f:Fn):Ex→Bool
 | .nil=>true
 | .mk k _ s a b=>if (k==1)=true then Co f s != 2 else FC f a&&FC f b
def Qm (f:Fn):Cd→Bool
 | .nil=>true
 | .mk k a b p q s=>if (k==9)=true then Co f s==2 else FC f a&&FC f b&&Qm f p&&Qm f q
abbrev Yt (n:Nat) (f:Fn) (e:Ex):Prop:=okF f∧e.dp<n
abbrev L1 (n:Nat) (f:Fn) (e:Ex):SV:=.one (.v (.bool (FC f e)))
noncomputable abbrev UY:ArgC ((Fn)×(Ex)×Unit):=(acS (cFn) (acS (cEx) ac0))
abbrev Rb (n:Nat):Prop:=CY Try.prog 93 UY (fun p:(Fn)×(Ex)×Unit=>Yt n p.1 p.2.1) (fun p:(Fn)×(Ex)×Unit=>L1 n p.1 p.2.1)
theorem li (n:Nat):∀p:(Fn)×(Ex)×Unit,((fun p:(Fn)×(Ex)×Unit=>L1 n p.1 p.2.1) p).names=[]:=by intro p;first|rfl|exact Fp _|exact HQ _
noncomputable def Cc {X:Ctx} {w0:World} (n:Nat) (h:Rb n):Sy.Spec Try.prog X w0:=D4 93 Try.call93 UY (fun p:(Fn)×(Ex)×Unit=>Yt n p.1 p.2.1) (fun p:(Fn)×(Ex)×Unit=>L1 n p.1 p.2.1) (li n) h
attribute[local go_sem] Fn.c BJ BP BQ BH BN BO AF AE AY AB AA AK Cc CF in
theorem lj (n:Nat) (hu:Rb n):Rb (n+1):=by
 rintro ⟨f,e,_u⟩ w fz xs hc hfz hl hx
 refine BZ Try.func93 rfl w fz [CF,(Cc n hu)] [] UY (fun p:(Fn)×(Ex)×Unit=>L1 (n+1) p.1 p.2.1) _ xs hfz hl hx (jN rfl) ?_
 clear hx hl hfz xs
 simp only[Try.f93]
 obtain⟨hc1,hc2⟩:=hc
 dsimp only at hc1 hc2
 cases e with
 |nil=>
  simp only[↓eB,seval,go_sem,AZ]
  try simp only[A3,A4]
  repeat' first|exact ck|with_reducible apply And.intro|intro _
  all_goals first|exact hc1|(rename_i h;first|exact oI h|exact nah h)|(rename_i _ h _ g;exact sL h g)|decide|omega|(refine A0 [] ?_;simp only[↓eB,seval,go_sem,bne,L1,FC])
 |mk k n' s a b=>
  simp only[Ex.dp]at hc2
  cases hk:(k==1) with
  |true=>
   simp only[↓eB,seval,go_sem,DL,hk]
   try simp only[A3,A4]
   repeat' first|exact ck|with_reducible apply And.intro|intro _
   all_goals first|exact hc1|(rename_i h;first|exact oI h|exact nah h)|(rename_i _ h _ g;exact sL h g)|decide|omega|(refine A0 [] ?_;simp only[↓eB,seval,go_sem,bne,L1,FC,hk])
  |false=>
   simp only[↓eB,seval,go_sem,DL,hk]
   try simp only[A3,A4]
   repeat' first|exact ck|with_reducible apply And.intro|intro _
   all_goals first|exact hc1|(rename_i h;first|exact oI h|exact nah h)|(rename_i _ h _ g;exact sL h g)|decide|omega|(refine A0 [] ?_;simp only[↓eB,seval,go_sem,bne,L1,FC,hk])
theorem TU:∀n:Nat,Rb n
 |0=>by
  rintro ⟨f,e,_u⟩ w fz xs hc hfz hl hx
  exact absurd hc.2 (Nat.not_lt_zero _)
 |n+1=>lj n (TU n)
abbrev Wx (n:Nat) (f:Fn) (e:Cd):Prop:=okF f∧e.dp<n
abbrev Jo (n:Nat) (f:Fn) (e:Cd):SV:=.one (.v (.bool (Qm f e)))
noncomputable abbrev Sa:ArgC ((Fn)×(Cd)×Unit):=(acS (cFn) (acS (cCd) ac0))
abbrev Pu (n:Nat):Prop:=CY Try.prog 94 Sa (fun p:(Fn)×(Cd)×Unit=>Wx n p.1 p.2.1) (fun p:(Fn)×(Cd)×Unit=>Jo n p.1 p.2.1)
theorem fg (n:Nat):∀p:(Fn)×(Cd)×Unit,((fun p:(Fn)×(Cd)×Unit=>Jo n p.1 p.2.1) p).names=[]:=by intro p;first|rfl|exact Fp _|exact HQ _
noncomputable def CN {X:Ctx} {w0:World} (n:Nat) (h:Pu n):Sy.Spec Try.prog X w0:=D4 94 Try.call94 Sa (fun p:(Fn)×(Cd)×Unit=>Wx n p.1 p.2.1) (fun p:(Fn)×(Cd)×Unit=>Jo n p.1 p.2.1) (fg n) h
attribute[local go_sem] Fn.c BJ BP BQ BH BN BO AF AE AY AB AA AK CN Cc CF in
theorem fh (n:Nat) (hu:Pu n):Pu (n+1):=by
 rintro ⟨f,e,_u⟩ w fz xs hc hfz hl hx
 refine BZ Try.func94 rfl w fz [CF,(Cc n (TU n)),(CN n hu)] [] Sa (fun p:(Fn)×(Cd)×Unit=>Jo (n+1) p.1 p.2.1) _ xs hfz hl hx (jN rfl) ?_
 clear hx hl hfz xs
 simp only[Try.f94]
 obtain⟨hc1,hc2⟩:=hc
 dsimp only at hc1 hc2
 cases e with
 |nil=>
  simp only[↓eB,seval,go_sem,Aq]
  try simp only[A3,A4]
  repeat' first|exact ck|with_reducible apply And.intro|intro _
  all_goals first|exact hc1|(rename_i h;first|exact oI h|exact nah h)|(rename_i _ h _ g;exact sL h g)|decide|omega|(refine A0 [] ?_;simp only[↓eB,seval,go_sem,bne,Jo,Qm])
 |mk k a b p q s=>
  simp only[Cd.dp]at hc2
  cases hk:(k==9) with
  |true=>
   simp only[↓eB,seval,go_sem,DC,hk]
   try simp only[A3,A4]
   repeat' first|exact ck|with_reducible apply And.intro|intro _
   all_goals first|exact hc1|(rename_i h;first|exact oI h|exact nah h)|(rename_i _ h _ g;exact sL h g)|decide|omega|(refine A0 [] ?_;simp only[↓eB,seval,go_sem,bne,Jo,Qm,hk])
  |false=>
   simp only[↓eB,seval,go_sem,DC,hk]
   try simp only[A3,A4]
   repeat' first|exact ck|with_reducible apply And.intro|intro _
   all_goals first|exact hc1|(rename_i h;first|exact oI h|exact nah h)|(rename_i _ h _ g;exact sL h g)|decide|omega|(refine A0 [] ?_;simp only[↓eB,seval,go_sem,bne,Jo,Qm,hk])
theorem UZ:∀n:Nat,Pu n
 |0=>by
  rintro ⟨f,e,_u⟩ w fz xs hc hfz hl hx
  exact absurd hc.2 (Nat.not_lt_zero _)
 |n+1=>fh n (UZ n)
end Go.Proofs.Ytjnnmindcbgjhaa
