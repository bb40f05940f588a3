/- Codings of trees, statements, functions. No conditions but those in each statement. -/
import Derived.Test.YtjnnmindcbgjhaaAt
import Derived.Test.YtjnnmindcbgjhaaMi1
set_option linter.unusedVariables false
set_option linter.unusedSimpArgs false
set_option maxRecDepth 20000
set_option maxHeartbeats 8000000
namespace Go.Proofs.Ytjnnmindcbgjhaa
open Go Go.Sy Go.RowKit
theorem FY {c:C} {z z':List D} {es es':List (List D)} (h:leC c (.d (.sl z es))) (h':leC c (.d (.sl z' es'))):es=es':=by
 rcases h with rfl|⟨h1,h2⟩
 ·rcases h' with h|⟨h3,h4⟩
  ·simp only[C.d.injEq,D.sl.injEq]at h;exact h.2
  ·cases h3
 ·obtain rfl:=Tn h1
  rcases h' with h|⟨h3,h4⟩
  ·cases h
  ·obtain⟨_,he⟩:=Ob h2
   obtain⟨_,he'⟩:=Ob h4
   simp only[C.d.injEq,D.sl.injEq]at he he'
   rw[he.2,he'.2]
theorem S0 {c:C} {x y:Value} (h:leC c (.v x)) (h':leC c (.v y)):x=y:=by
 rcases h with rfl|⟨_,h2⟩
 ·rcases h' with h|⟨_,h4⟩
  ·simpa using h
  ·cases h4
 ·cases h2
theorem S1 {c:C} {d d':D} (hd:∀z,oD d≠.d (.sl z [])) (hd':∀z,oD d'≠.d (.sl z [])) (h:leC c (oD d)) (h':leC c (oD d')):oD d=oD d':=by
 rcases h with rfl|⟨_,h2⟩
 ·rcases h' with h|⟨_,h4⟩
  ·exact h
  ·obtain⟨z,h⟩:=Ob h4;exact absurd h (hd' z)
 ·obtain⟨z,h⟩:=Ob h2;exact absurd h (hd z)
theorem aA {a b:D} (h:oD a=oD b):a=b:=by cases a<;>cases b<;>simp_all [oD]
theorem TE {a b:Ex} (h:exC a=exC b):a=b:=JY (aA h)
theorem XR {a b:Cd} (h:cdC a=cdC b):a=b:=QQ (aA h)
theorem Nv (e:Ex):∀z,oD e.d≠.d (.sl z []):=by intro z;cases e<;>simp[Ex.d,oD]
theorem S2 (e:Cd):∀z,oD e.d≠.d (.sl z []):=by intro z;cases e<;>simp[Cd.d,oD]
noncomputable def cEx:Cod Ex:=Hk (fun e=>.one (exC e)) (fun v a b h h'=>by
 cases v with
 |one c=>exact TE (S1 (Nv a) (Nv b) h h')
 |agg l=>exact h.elim
 |tup l=>exact h.elim) (fun e=>Ge e)
theorem BM (e:Ex):cEx.e e= .one (exC e):=rfl
theorem BD (e:Ex):cEx.d (.one (exC e))=some e:=E9 (e:=fun e=>.one (exC e)) (EV _)
theorem BN:cEx.d (.one (.v (.pointer none)))=some .nil:=BD .nil
noncomputable def cCd:Cod Cd:=Hk (fun e=>.one (cdC e)) (fun v a b h h'=>by
 cases v with
 |one c=>exact XR (S1 (S2 a) (S2 b) h h')
 |agg l=>exact h.elim
 |tup l=>exact h.elim) (fun e=>J8 e)
theorem BO (e:Cd):cCd.e e= .one (cdC e):=rfl
theorem BG (e:Cd):cCd.d (.one (cdC e))=some e:=E9 (e:=fun e=>.one (cdC e)) (EV _)
theorem BP:cCd.d (.one (.v (.pointer none)))=some .nil:=BG .nil
theorem yE (v:SV) (a b:Fn) (h:leV v (.agg a.c)) (h':leV v (.agg b.c)):a=b:=by
 cases v with
 |one c=>exact h.elim
 |tup l=>exact h.elim
 |agg l=>
  obtain⟨n,ps,ls,bd⟩:=a
  obtain⟨n',ps',ls',bd'⟩:=b
  match l,h,h' with
  |[c0,c1,c2,c3],⟨h0,h1,h2,h3,_⟩,⟨g0,g1,g2,g3,_⟩=>
   have e0:=S0 h0 g0
   simp only[Value.string.injEq]at e0
   have k0:=bs_inj e0
   have k1:=B2 Pf (FY h1 g1)
   have k2:=B2 Pf (FY h2 g2)
   have k3:=B2 MO (FY h3 g3)
   simp only at k0 k1 k2 k3
   subst k0;subst k1;subst k2;subst k3;rfl
noncomputable def cFn:Cod Fn:=Hk (fun f=>.agg f.c) yE (fun f=>rfl)
theorem AE (f:Fn):cFn.e f= .agg f.c:=rfl
theorem AF (n:List UInt8) (ps ls:List Vr) (bd:List Sm):cFn.d (.agg [.v (.string (bs n)),.d (.sl zVr (ps.map Vr.r)),.d (.sl zVr (ls.map Vr.r)),.d (.sl zSm (bd.map Sm.r))])=some ⟨n,ps,ls,bd⟩:=E9 (e:=fun f:Fn=>.agg f.c) (a:=⟨n,ps,ls,bd⟩) (EV _)
theorem AU (f:Fn):(⟨f.name,f.ps,f.ls,f.body⟩:Fn)=f:=rfl
theorem FL (l:List Vr):(l.map Vr.r).map (fun r=>r.map oD)=l.map Vr.c:=by rw[List.map_map];rfl
theorem Yl {l:List Vr} {i:Nat} {x:Vr} (h:l[i]?=some x):(l.map Vr.c).getD i [.v (.string (bs [])),.v (.bool false)]=x.c:=by simp[List.getD,h]
theorem XS (a:Vr):∀c∈a.c,C.stor c=true:=by
 intro c hc;simp only[Vr.c,List.mem_cons,List.not_mem_nil,or_false]at hc;rcases hc with rfl|rfl<;>rfl
theorem AA {A B:Type} (x:Option A):R0 x (none:Option B)=none:=by cases x<;>rfl
theorem AB {A B:Type} (x:Option B):R0 (none:Option A) x=none:=rfl
theorem AK {A:Type} (Cd:A→Prop) (F:A→SV):Np (none:Option A) Cd F=none:=rfl
def Ex.dp:Ex→Nat
 | .nil=>0
 | .mk _ _ _ a b=>max a.dp b.dp+1
def Cd.dp:Cd→Nat
 | .nil=>0
 | .mk _ a b p q _=>max (max a.dp b.dp) (max p.dp q.dp)+1
theorem yF (v:SV) (a b:Sm) (h:leV v (.agg a.c)) (h':leV v (.agg b.c)):a=b:=by
 cases v with
 |one c=>exact h.elim
 |tup l=>exact h.elim
 |agg l=>
  obtain⟨k,x,y,e,f,cd,ar,th,el,no⟩:=a
  obtain⟨k',x',y',e',f',cd',ar',th',el',no'⟩:=b
  match l,h,h' with
  |[c0,c1,c2,c3,c4,c5,c6,c7,c8,c9],⟨h0,h1,h2,h3,h4,h5,h6,h7,h8,h9,_⟩,⟨g0,g1,g2,g3,g4,g5,g6,g7,g8,g9,_⟩=>
   have e0:=S0 h0 g0
   have e1:=S0 h1 g1
   have e2:=S0 h2 g2
   have e9:=S0 h9 g9
   simp only[Value.string.injEq,Value.int.injEq,true_and]at e0 e1 e2 e9
   have k1:=bs_inj e1
   have k2:=bs_inj e2
   have k3:=TE (S1 (Nv _) (Nv _) h3 g3)
   have k4:=TE (S1 (Nv _) (Nv _) h4 g4)
   have k5:=XR (S1 (S2 _) (S2 _) h5 g5)
   have k6:=B2 aQ (FY h6 g6)
   have k7:=B2 MO (FY h7 g7)
   have k8:=B2 MO (FY h8 g8)
   simp only[Sm.k,Sm.x,Sm.y,Sm.e,Sm.f,Sm.cd,Sm.ar,Sm.th,Sm.el,Sm.no]at e0 k1 k2 k3 k4 k5 k6 k7 k8 e9
   subst e0;subst k1;subst k2;subst k3;subst k4;subst k5;subst k6;subst k7;subst k8;subst e9;rfl
noncomputable def cSm:Cod Sm:=Hk (fun s=>.agg s.c) yF (fun s=>List.flatMap_eq_nil_iff.2 (GF.nm s))
theorem C3 (s:Sm):cSm.e s= .agg s.c:=rfl
theorem qo (s:Sm):cSm.d (.agg s.c)=some s:=E9 (e:=fun s:Sm=>.agg s.c) (EV _)
theorem C4 (k no:Int) (x y:List UInt8) (e f:Ex) (cd:Cd) (ar:List Ar) (th el:List Sm):cSm.d (.agg [.v (.int .i64 k),.v (.string (bs x)),.v (.string (bs y)),exC e,exC f,cdC cd,.d (.sl zAr (ar.map Ar.r)),.d (.sl zSm (th.map Sm.r)),.d (.sl zSm (el.map Sm.r)),.v (.int .i64 no)])=some (.mk k x y e f cd ar th el no):=qo (.mk k x y e f cd ar th el no)
theorem Bx (k n:Int) (s:List UInt8) (a b:Ex):cEx.d (.one (.d (.pt (some [.v (.int .i64 k),.v (.int .i64 n),.v (.string (bs s)),a.d,b.d]))))=some (.mk k n s a b):=BD (.mk k n s a b)
theorem qp (s:Sm) (b:Bool):(SV.tup [.inr s.c,.inl (.v (.bool b))]).names=[]:=by
 have h:pNames (.inr s.c)=[]:=List.flatMap_eq_nil_iff.2 (GF.nm s)
 simp only[SV.names,List.flatMap_cons,List.flatMap_nil,h];rfl
theorem BU (l:List Ar):(l.map Ar.r).map (fun r=>r.map oD)=l.map Ar.c:=by rw[List.map_map];rfl
theorem yG {l:List Ar} {i:Nat} {x:Ar} (h:l[i]?=some x):(l.map Ar.c).getD i [.v (.bool false),.v (.string (bs [])),.v (.pointer none)]=x.c:=by simp[List.getD,h]
def fl4:List C:=[.v (.bool false),.v (.bool false),.v (.bool false),.v (.bool false)]
def LU:List C:=[.v (.bool false),.v (.bool false),.v (.bool false),.v (.bool false),.v (.bool false),.v (.bool false),.v (.bool false),.v (.bool false),.v (.bool false),.v (.bool false)]
structure OkS (n:Nat) (s:Sm):Prop where
 e:s.e.dp<n
 f:s.f.dp<n
 c:s.cd.dp<n
 a:∀a∈s.ar,a.e.dp<n
 l:s.ar.length≤5000
noncomputable def cSs:Cod (List Sm):=Hk (fun l=>.one (.d (.sl zSm (l.map Sm.r)))) (fun v a b h h'=>by
 cases v with
 |one c=>exact B2 MO (FY h h')
 |agg l=>exact h.elim
 |tup l=>exact h.elim) (fun l=>rfl)
theorem Cv (l:List Sm):cSs.e l= .one (.d (.sl zSm (l.map Sm.r))):=rfl
theorem Cw (l:List Sm):cSs.d (.one (.d (.sl zSm (l.map Sm.r))))=some l:=E9 (e:=fun l:List Sm=>.one (.d (.sl zSm (l.map Sm.r)))) (EV _)
def okB (n:Nat):Nat→List Sm→Prop
 |0,_=>False
 |m+1,l=>l.length≤5000∧∀s∈l,OkS n s∧okB n m s.th∧okB n m s.el
theorem XT {n m:Nat} {l:List Sm} (h:okB n m l):okB n m []:=by
 cases m with
 |zero=>exact h.elim
 |succ m=>exact⟨Nat.zero_le _,fun s hs=>by cases hs⟩
def okF (f:Fn):Prop:=f.ps.length≤5000∧f.ls.length≤5000
end Go.Proofs.Ytjnnmindcbgjhaa
namespace Go.Proofs.Ytjnnmindcbgjhaa
open Go Go.Sy Go.RowKit
def Ym (nm:List UInt8):List Vr→Int
 |[]=>0
 |v::l=>if (v.s==nm)=true then (if v.p=true then 2 else 1) else Ym nm l
def Cl (f:Fn) (nm:List UInt8):Int:=Ym nm (f.ps++f.ls)
abbrev XU (f:Fn) (nm:List UInt8):Prop:=okF f
abbrev KD (f:Fn) (nm:List UInt8):SV:=.one (.v (.int .i64 (Cl f nm)))
noncomputable abbrev TF:ArgC ((Fn)×(List UInt8)×Unit):=(acS (cFn) (acS (cStr) ac0))
abbrev jK:Prop:=Cg Try.prog 91 TF (fun p:(Fn)×(List UInt8)×Unit=>XU p.1 p.2.1) (fun p:(Fn)×(List UInt8)×Unit=>KD p.1 p.2.1)
theorem jL:∀p:(Fn)×(List UInt8)×Unit,((fun p:(Fn)×(List UInt8)×Unit=>KD p.1 p.2.1) p).names=[]:=by intro p;first|rfl|exact Ge _|exact J8 _
theorem qq:jK:=by
 rintro ⟨f,nm,_u⟩ w fz xs hc hfz hl hx
 refine Bw Try.func91 rfl w fz [] [] TF (fun p:(Fn)×(List UInt8)×Unit=>KD p.1 p.2.1) _ xs hfz hl hx (jN rfl) ?_
 clear hx hl hfz xs
 simp only[Try.f91]
 obtain⟨hc1,hc2⟩:=hc
 dsimp only at hc1 hc2
 simp only[↓eB,seval,go_sem,AE,AF,BM,BD,BN,BO,BG,BP,Fn.c,AU,AA,AB,AK,FL]
 refine⟨⟨fun q h=>(by cases h;rfl),UE _ XS _,by omega,by omega⟩,⟨fun q h=>(by cases h;rfl),UE _ XS _,by omega,by omega⟩,Dw (by kernel_rfl),?_⟩
 refine Ac (Y:=Nat) (fun i=>i≤(f.ps++f.ls).length∧Ym nm ((f.ps++f.ls).drop i)=Cl f nm)
  (fun i=>⟨[(1,true,.one (.v (.string (bs nm)))),(5,true,.one (.s 1000)),(6,true,.one (.v (.int .i64 (i:Int))))],[(1000,.vec 0 zVc ((f.ps++f.ls).map Vr.c))]⟩)
  (fun i=>(f.ps++f.ls).length-i) 0 ⟨Nat.zero_le _,rfl⟩ ?_ ?_
 ·refine A2 [.mv 12 1000] ?_;simp only[↓eB,seval,go_sem,CR.mv,CR.fn,zVc,List.map_append,List.flatMap_append]
 ·rintro i ⟨hi,hJ⟩
  refine Aq [] [] _ _ _ ?_
  have hsm:(f.ps++f.ls).length≤4294967296:=by simp only[List.length_append];omega
  generalize f.ps++f.ls=L at hi hJ hsm ⊢
  cases hx:L[i]? with
  |none=>
   have hi2:L.length≤i:=List.getElem?_eq_none_iff.1 hx
   have h1:=BA hi2
   rw[List.drop_eq_nil_of_le hi2]at hJ
   have hR:Cl f nm=0:=hJ.symm
   simp only[↓eB,seval,go_sem,h1]
   refine A0 [] ?_;simp only[↓eB,seval,go_sem,bne,KD,hR]
  |some x=>
   have hlt:i<L.length:=(List.getElem?_eq_some_iff.1 hx).1
   have h1:=B9 hlt
   have h2:=F6 hlt
   have h3:=Yl hx
   have h4:=Dy hi hsm
   rw[Bn hx]at hJ
   simp only[Ym]at hJ
   simp only[↓eB,seval,go_sem,h1,h2,h3,h4,zVc,Vr.c]
   simp only[A3,A4]
   refine⟨hlt,hlt,fun hb=>⟨hlt,hlt,fun hc=>?_,fun hc=>?_⟩,fun hb=>?_⟩
   ·rw[if_pos hb,if_pos hc]at hJ
    refine A0 [] ?_;simp only[↓eB,seval,go_sem,bne,KD,← hJ]
   ·rw[if_pos hb,if_neg (by rw[hc];decide)]at hJ
    refine A0 [] ?_;simp only[↓eB,seval,go_sem,bne,KD,← hJ]
   ·rw[if_neg (by rw[hb];decide)]at hJ
    refine⟨i+1,⟨hlt,hJ⟩,by omega,A2 [] ?_⟩
    simp only[↓eB,seval,go_sem,CR.fn]
noncomputable def CA {X:Ctx} {w0:World}:Sy.Spec Try.prog X w0:=DG 91 Try.call91 TF (fun p:(Fn)×(List UInt8)×Unit=>XU p.1 p.2.1) (fun p:(Fn)×(List UInt8)×Unit=>KD p.1 p.2.1) jL qq
def MJ (f:Fn):Ex→Bool
 | .nil=>false
 | .mk k _ s _ _=>k==1&&Cl f s==2
abbrev S3 (f:Fn) (e:Ex):Prop:=okF f
abbrev IL (f:Fn) (e:Ex):SV:=.one (.v (.bool (MJ f e)))
noncomputable abbrev Ot:ArgC ((Fn)×(Ex)×Unit):=(acS (cFn) (acS (cEx) ac0))
abbrev Yn:Prop:=Cg Try.prog 92 Ot (fun p:(Fn)×(Ex)×Unit=>S3 p.1 p.2.1) (fun p:(Fn)×(Ex)×Unit=>IL p.1 p.2.1)
theorem Yo:∀p:(Fn)×(Ex)×Unit,((fun p:(Fn)×(Ex)×Unit=>IL p.1 p.2.1) p).names=[]:=by intro p;first|rfl|exact Ge _|exact J8 _
attribute[local go_sem] Fn.c BG BO BP BD BM BN AF AE AU AB AA AK CA in
theorem aB:Yn:=by
 rintro ⟨f,e,_u⟩ w fz xs hc hfz hl hx
 refine Bw Try.func92 rfl w fz [CA] [] Ot (fun p:(Fn)×(Ex)×Unit=>IL p.1 p.2.1) _ xs hfz hl hx (jN rfl) ?_
 clear hx hl hfz xs
 simp only[Try.f92]
 have hc1:okF f:=hc
 cases e with
 |nil=>
  simp only[↓eB,seval,go_sem,AV]
  try simp only[A3,A4]
  repeat' first|exact ck|with_reducible apply And.intro|intro _
  all_goals first|exact hc1|(rename_i h;first|exact oI h|exact nah h)|(rename_i _ h _ g;exact sL h g)|decide|omega|(refine A0 [] ?_;simp only[↓eB,seval,go_sem,bne,IL,MJ])
 |mk k n s a b=>
  simp only[↓eB,seval,go_sem,DE]
  try simp only[A3,A4]
  repeat' first|exact ck|with_reducible apply And.intro|intro _
  all_goals first|exact hc1|(rename_i h;first|exact oI h|exact nah h)|(rename_i _ h _ g;exact sL h g)|decide|omega|(refine A0 [] ?_;simp only[↓eB,seval,go_sem,bne,IL,MJ])
noncomputable def Br {X:Ctx} {w0:World}:Sy.Spec Try.prog X w0:=DG 92 Try.call92 Ot (fun p:(Fn)×(Ex)×Unit=>S3 p.1 p.2.1) (fun p:(Fn)×(Ex)×Unit=>IL p.1 p.2.1) Yo aB
def Eu (f:Fn):Ex→Bool
 | .nil=>true
 | .mk k _ s a b=>if (k==1)=true then Cl f s != 2 else Eu f a&&Eu f b
def Pd (f:Fn):Cd→Bool
 | .nil=>true
 | .mk k a b p q s=>if (k==9)=true then Cl f s==2 else Eu f a&&Eu f b&&Pd f p&&Pd f q
abbrev XV (n:Nat) (f:Fn) (e:Ex):Prop:=okF f∧e.dp<n
abbrev KE (n:Nat) (f:Fn) (e:Ex):SV:=.one (.v (.bool (Eu f e)))
noncomputable abbrev TG:ArgC ((Fn)×(Ex)×Unit):=(acS (cFn) (acS (cEx) ac0))
abbrev QN (n:Nat):Prop:=Cg Try.prog 93 TG (fun p:(Fn)×(Ex)×Unit=>XV n p.1 p.2.1) (fun p:(Fn)×(Ex)×Unit=>KE n p.1 p.2.1)
theorem jM (n:Nat):∀p:(Fn)×(Ex)×Unit,((fun p:(Fn)×(Ex)×Unit=>KE n p.1 p.2.1) p).names=[]:=by intro p;first|rfl|exact Ge _|exact J8 _
noncomputable def CU {X:Ctx} {w0:World} (n:Nat) (h:QN n):Sy.Spec Try.prog X w0:=DG 93 Try.call93 TG (fun p:(Fn)×(Ex)×Unit=>XV n p.1 p.2.1) (fun p:(Fn)×(Ex)×Unit=>KE n p.1 p.2.1) (jM n) h
attribute[local go_sem] Fn.c BG BO BP BD BM BN AF AE AU AB AA AK CU CA in
theorem jO (n:Nat) (hu:QN n):QN (n+1):=by
 rintro ⟨f,e,_u⟩ w fz xs hc hfz hl hx
 refine Bw Try.func93 rfl w fz [CA,(CU n hu)] [] TG (fun p:(Fn)×(Ex)×Unit=>KE (n+1) p.1 p.2.1) _ xs hfz hl hx (jN rfl) ?_
 clear hx hl hfz xs
 simp only[Try.f93]
 obtain⟨hc1,hc2⟩:=hc
 dsimp only at hc1 hc2
 cases e with
 |nil=>
  simp only[↓eB,seval,go_sem,AV]
  try simp only[A3,A4]
  repeat' first|exact ck|with_reducible apply And.intro|intro _
  all_goals first|exact hc1|(rename_i h;first|exact oI h|exact nah h)|(rename_i _ h _ g;exact sL h g)|decide|omega|(refine A0 [] ?_;simp only[↓eB,seval,go_sem,bne,KE,Eu])
 |mk k n' s a b=>
  simp only[Ex.dp]at hc2
  cases hk:(k==1) with
  |true=>
   simp only[↓eB,seval,go_sem,DE,hk]
   try simp only[A3,A4]
   repeat' first|exact ck|with_reducible apply And.intro|intro _
   all_goals first|exact hc1|(rename_i h;first|exact oI h|exact nah h)|(rename_i _ h _ g;exact sL h g)|decide|omega|(refine A0 [] ?_;simp only[↓eB,seval,go_sem,bne,KE,Eu,hk])
  |false=>
   simp only[↓eB,seval,go_sem,DE,hk]
   try simp only[A3,A4]
   repeat' first|exact ck|with_reducible apply And.intro|intro _
   all_goals first|exact hc1|(rename_i h;first|exact oI h|exact nah h)|(rename_i _ h _ g;exact sL h g)|decide|omega|(refine A0 [] ?_;simp only[↓eB,seval,go_sem,bne,KE,Eu,hk])
theorem S4:∀n:Nat,QN n
 |0=>by
  rintro ⟨f,e,_u⟩ w fz xs hc hfz hl hx
  exact absurd hc.2 (Nat.not_lt_zero _)
 |n+1=>jO n (S4 n)
abbrev VP (n:Nat) (f:Fn) (e:Cd):Prop:=okF f∧e.dp<n
abbrev J7 (n:Nat) (f:Fn) (e:Cd):SV:=.one (.v (.bool (Pd f e)))
noncomputable abbrev RD:ArgC ((Fn)×(Cd)×Unit):=(acS (cFn) (acS (cCd) ac0))
abbrev Ov (n:Nat):Prop:=Cg Try.prog 94 RD (fun p:(Fn)×(Cd)×Unit=>VP n p.1 p.2.1) (fun p:(Fn)×(Cd)×Unit=>J7 n p.1 p.2.1)
theorem dW (n:Nat):∀p:(Fn)×(Cd)×Unit,((fun p:(Fn)×(Cd)×Unit=>J7 n p.1 p.2.1) p).names=[]:=by intro p;first|rfl|exact Ge _|exact J8 _
noncomputable def CJ {X:Ctx} {w0:World} (n:Nat) (h:Ov n):Sy.Spec Try.prog X w0:=DG 94 Try.call94 RD (fun p:(Fn)×(Cd)×Unit=>VP n p.1 p.2.1) (fun p:(Fn)×(Cd)×Unit=>J7 n p.1 p.2.1) (dW n) h
attribute[local go_sem] Fn.c BG BO BP BD BM BN AF AE AU AB AA AK CJ CU CA in
theorem dX (n:Nat) (hu:Ov n):Ov (n+1):=by
 rintro ⟨f,e,_u⟩ w fz xs hc hfz hl hx
 refine Bw Try.func94 rfl w fz [CA,(CU n (S4 n)),(CJ n hu)] [] RD (fun p:(Fn)×(Cd)×Unit=>J7 (n+1) p.1 p.2.1) _ xs hfz hl hx (jN rfl) ?_
 clear hx hl hfz xs
 simp only[Try.f94]
 obtain⟨hc1,hc2⟩:=hc
 dsimp only at hc1 hc2
 cases e with
 |nil=>
  simp only[↓eB,seval,go_sem,Am]
  try simp only[A3,A4]
  repeat' first|exact ck|with_reducible apply And.intro|intro _
  all_goals first|exact hc1|(rename_i h;first|exact oI h|exact nah h)|(rename_i _ h _ g;exact sL h g)|decide|omega|(refine A0 [] ?_;simp only[↓eB,seval,go_sem,bne,J7,Pd])
 |mk k a b p q s=>
  simp only[Cd.dp]at hc2
  cases hk:(k==9) with
  |true=>
   simp only[↓eB,seval,go_sem,D5,hk]
   try simp only[A3,A4]
   repeat' first|exact ck|with_reducible apply And.intro|intro _
   all_goals first|exact hc1|(rename_i h;first|exact oI h|exact nah h)|(rename_i _ h _ g;exact sL h g)|decide|omega|(refine A0 [] ?_;simp only[↓eB,seval,go_sem,bne,J7,Pd,hk])
  |false=>
   simp only[↓eB,seval,go_sem,D5,hk]
   try simp only[A3,A4]
   repeat' first|exact ck|with_reducible apply And.intro|intro _
   all_goals first|exact hc1|(rename_i h;first|exact oI h|exact nah h)|(rename_i _ h _ g;exact sL h g)|decide|omega|(refine A0 [] ?_;simp only[↓eB,seval,go_sem,bne,J7,Pd,hk])
theorem TH:∀n:Nat,Ov n
 |0=>by
  rintro ⟨f,e,_u⟩ w fz xs hc hfz hl hx
  exact absurd hc.2 (Nat.not_lt_zero _)
 |n+1=>dX n (TH n)
end Go.Proofs.Ytjnnmindcbgjhaa
