/- Codings of trees, statements, functions. No conditions but those in each statement. -/
import Derived.Test.YtjnnmindcbgjhaaAt
import Derived.Test.YtjnnmindcbgjhaaMi1
set_option linter.unusedVariables false
set_option linter.unusedSimpArgs false
set_option maxRecDepth 20000
set_option maxHeartbeats 8000000
namespace Go.Proofs.Ytjnnmindcbgjhaa
open Go Go.Sy Go.RowKit
theorem Ez {c:C} {z z':List D} {es es':List (List D)} (h:leC c (.d (.sl z es))) (h':leC c (.d (.sl z' es'))):es=es':=by
 rcases h with rfl|⟨h1,h2⟩
 ·rcases h' with h|⟨h3,h4⟩
  ·simp only[C.d.injEq,D.sl.injEq]at h;exact h.2
  ·cases h3
 ·obtain rfl:=Rr h1
  rcases h' with h|⟨h3,h4⟩
  ·cases h
  ·obtain⟨_,he⟩:=Lv h2
   obtain⟨_,he'⟩:=Lv h4
   simp only[C.d.injEq,D.sl.injEq]at he he'
   rw[he.2,he'.2]
theorem Lb {c:C} {x y:Value} (h:leC c (.v x)) (h':leC c (.v y)):x=y:=by
 rcases h with rfl|⟨_,h2⟩
 ·rcases h' with h|⟨_,h4⟩
  ·simpa using h
  ·cases h4
 ·cases h2
theorem T7 {c:C} {d d':D} (hd:∀z,oD d≠.d (.sl z [])) (hd':∀z,oD d'≠.d (.sl z [])) (h:leC c (oD d)) (h':leC c (oD d')):oD d=oD d':=by
 rcases h with rfl|⟨_,h2⟩
 ·rcases h' with h|⟨_,h4⟩
  ·exact h
  ·obtain⟨z,h⟩:=Lv h4;exact absurd h (hd' z)
 ·obtain⟨z,h⟩:=Lv h2;exact absurd h (hd z)
theorem bq {a b:D} (h:oD a=oD b):a=b:=by cases a<;>cases b<;>simp_all [oD]
theorem UG {a b:Ex} (h:exC a=exC b):a=b:=Jx (bq h)
theorem Yd {a b:Cd} (h:cdC a=cdC b):a=b:=RK (bq h)
theorem OT (e:Ex):∀z,oD e.d≠.d (.sl z []):=by intro z;cases e<;>simp[Ex.d,oD]
theorem T8 (e:Cd):∀z,oD e.d≠.d (.sl z []):=by intro z;cases e<;>simp[Cd.d,oD]
noncomputable def cEx:Cod Ex:=GZ (fun e=>.one (exC e)) (fun v a b h h'=>by
 cases v with
 |one c=>exact UG (T7 (OT a) (OT b) h h')
 |agg l=>exact h.elim
 |tup l=>exact h.elim) (fun e=>Ff e)
theorem BN (e:Ex):cEx.e e= .one (exC e):=rfl
theorem BE (e:Ex):cEx.d (.one (exC e))=some e:=D7 (e:=fun e=>.one (exC e)) (Do _)
theorem BO:cEx.d (.one (.v (.pointer none)))=some .nil:=BE .nil
noncomputable def cCd:Cod Cd:=GZ (fun e=>.one (cdC e)) (fun v a b h h'=>by
 cases v with
 |one c=>exact Yd (T7 (T8 a) (T8 b) h h')
 |agg l=>exact h.elim
 |tup l=>exact h.elim) (fun e=>H9 e)
theorem BP (e:Cd):cCd.e e= .one (cdC e):=rfl
theorem BJ (e:Cd):cCd.d (.one (cdC e))=some e:=D7 (e:=fun e=>.one (cdC e)) (Do _)
theorem BQ:cCd.d (.one (.v (.pointer none)))=some .nil:=BJ .nil
theorem A0A (v:SV) (a b:Fn) (h:leV v (.agg a.c)) (h':leV v (.agg b.c)):a=b:=by
 cases v with
 |one c=>exact h.elim
 |tup l=>exact h.elim
 |agg l=>
  obtain⟨n,ps,ls,bd⟩:=a
  obtain⟨n',ps',ls',bd'⟩:=b
  match l,h,h' with
  |[c0,c1,c2,c3],⟨h0,h1,h2,h3,_⟩,⟨g0,g1,g2,g3,_⟩=>
   have e0:=Lb h0 g0
   simp only[Value.string.injEq]at e0
   have k0:=bs_inj e0
   have k1:=Ay QV (Ez h1 g1)
   have k2:=Ay QV (Ez h2 g2)
   have k3:=Ay Mu (Ez h3 g3)
   simp only at k0 k1 k2 k3
   subst k0;subst k1;subst k2;subst k3;rfl
noncomputable def cFn:Cod Fn:=GZ (fun f=>.agg f.c) A0A (fun f=>rfl)
theorem AE (f:Fn):cFn.e f= .agg f.c:=rfl
theorem AF (n:List UInt8) (ps ls:List Vr) (bd:List Sm):cFn.d (.agg [.v (.string (bs n)),.d (.sl zVr (ps.map Vr.r)),.d (.sl zVr (ls.map Vr.r)),.d (.sl zSm (bd.map Sm.r))])=some ⟨n,ps,ls,bd⟩:=D7 (e:=fun f:Fn=>.agg f.c) (a:=⟨n,ps,ls,bd⟩) (Do _)
theorem AX (f:Fn):(⟨f.name,f.ps,f.ls,f.body⟩:Fn)=f:=rfl
theorem Fe (l:List Vr):(l.map Vr.r).map (fun r=>r.map oD)=l.map Vr.c:=by rw[List.map_map];rfl
theorem a8 {l:List Vr} {i:Nat} {x:Vr} (h:l[i]?=some x):(l.map Vr.c).getD i [.v (.string (bs [])),.v (.bool false)]=x.c:=by simp[List.getD,h]
theorem Ye (a:Vr):∀c∈a.c,C.stor c=true:=by
 intro c hc;simp only[Vr.c,List.mem_cons,List.not_mem_nil,or_false]at hc;rcases hc with rfl|rfl<;>rfl
theorem AA {A B:Type} (x:Option A):S4 x (none:Option B)=none:=by cases x<;>rfl
theorem AB {A B:Type} (x:Option B):S4 (none:Option A) x=none:=rfl
theorem AK {A:Type} (Cd:A→Prop) (F:A→SV):ON (none:Option A) Cd F=none:=rfl
def Ex.dp:Ex→Nat
 | .nil=>0
 | .mk _ _ _ a b=>max a.dp b.dp+1
def Cd.dp:Cd→Nat
 | .nil=>0
 | .mk _ a b p q _=>max (max a.dp b.dp) (max p.dp q.dp)+1
theorem A0B (v:SV) (a b:Sm) (h:leV v (.agg a.c)) (h':leV v (.agg b.c)):a=b:=by
 cases v with
 |one c=>exact h.elim
 |tup l=>exact h.elim
 |agg l=>
  obtain⟨k,x,y,e,f,cd,ar,th,el,no⟩:=a
  obtain⟨k',x',y',e',f',cd',ar',th',el',no'⟩:=b
  match l,h,h' with
  |[c0,c1,c2,c3,c4,c5,c6,c7,c8,c9],⟨h0,h1,h2,h3,h4,h5,h6,h7,h8,h9,_⟩,⟨g0,g1,g2,g3,g4,g5,g6,g7,g8,g9,_⟩=>
   have e0:=Lb h0 g0
   have e1:=Lb h1 g1
   have e2:=Lb h2 g2
   have e9:=Lb h9 g9
   simp only[Value.string.injEq,Value.int.injEq,true_and]at e0 e1 e2 e9
   have k1:=bs_inj e1
   have k2:=bs_inj e2
   have k3:=UG (T7 (OT _) (OT _) h3 g3)
   have k4:=UG (T7 (OT _) (OT _) h4 g4)
   have k5:=Yd (T7 (T8 _) (T8 _) h5 g5)
   have k6:=Ay bx (Ez h6 g6)
   have k7:=Ay Mu (Ez h7 g7)
   have k8:=Ay Mu (Ez h8 g8)
   simp only[Sm.k,Sm.x,Sm.y,Sm.e,Sm.f,Sm.cd,Sm.ar,Sm.th,Sm.el,Sm.no]at e0 k1 k2 k3 k4 k5 k6 k7 k8 e9
   subst e0;subst k1;subst k2;subst k3;subst k4;subst k5;subst k6;subst k7;subst k8;subst e9;rfl
noncomputable def cSm:Cod Sm:=GZ (fun s=>.agg s.c) A0B (fun s=>List.flatMap_eq_nil_iff.2 (GY.nm s))
theorem C6 (s:Sm):cSm.e s= .agg s.c:=rfl
theorem tU (s:Sm):cSm.d (.agg s.c)=some s:=D7 (e:=fun s:Sm=>.agg s.c) (Do _)
theorem C7 (k no:Int) (x y:List UInt8) (e f:Ex) (cd:Cd) (ar:List Ar) (th el:List Sm):cSm.d (.agg [.v (.int .i64 k),.v (.string (bs x)),.v (.string (bs y)),exC e,exC f,cdC cd,.d (.sl zAr (ar.map Ar.r)),.d (.sl zSm (th.map Sm.r)),.d (.sl zSm (el.map Sm.r)),.v (.int .i64 no)])=some (.mk k x y e f cd ar th el no):=tU (.mk k x y e f cd ar th el no)
theorem C1 (k n:Int) (s:List UInt8) (a b:Ex):cEx.d (.one (.d (.pt (some [.v (.int .i64 k),.v (.int .i64 n),.v (.string (bs s)),a.d,b.d]))))=some (.mk k n s a b):=BE (.mk k n s a b)
theorem tV (s:Sm) (b:Bool):(SV.tup [.inr s.c,.inl (.v (.bool b))]).names=[]:=by
 have h:pNames (.inr s.c)=[]:=List.flatMap_eq_nil_iff.2 (GY.nm s)
 simp only[SV.names,List.flatMap_cons,List.flatMap_nil,h];rfl
theorem BS (l:List Ar):(l.map Ar.r).map (fun r=>r.map oD)=l.map Ar.c:=by rw[List.map_map];rfl
theorem A0C {l:List Ar} {i:Nat} {x:Ar} (h:l[i]?=some x):(l.map Ar.c).getD i [.v (.bool false),.v (.string (bs [])),.v (.pointer none)]=x.c:=by simp[List.getD,h]
def fl4:List C:=[.v (.bool false),.v (.bool false),.v (.bool false),.v (.bool false)]
def M5:List C:=[.v (.bool false),.v (.bool false),.v (.bool false),.v (.bool false),.v (.bool false),.v (.bool false),.v (.bool false),.v (.bool false),.v (.bool false),.v (.bool false)]
structure OkS (n:Nat) (s:Sm):Prop where
 e:s.e.dp<n
 f:s.f.dp<n
 c:s.cd.dp<n
 a:∀a∈s.ar,a.e.dp<n
 l:s.ar.length≤5000
noncomputable def cSs:Cod (List Sm):=GZ (fun l=>.one (.d (.sl zSm (l.map Sm.r)))) (fun v a b h h'=>by
 cases v with
 |one c=>exact Ay Mu (Ez h h')
 |agg l=>exact h.elim
 |tup l=>exact h.elim) (fun l=>rfl)
theorem Cx (l:List Sm):cSs.e l= .one (.d (.sl zSm (l.map Sm.r))):=rfl
theorem Cy (l:List Sm):cSs.d (.one (.d (.sl zSm (l.map Sm.r))))=some l:=D7 (e:=fun l:List Sm=>.one (.d (.sl zSm (l.map Sm.r)))) (Do _)
def okB (n:Nat):Nat→List Sm→Prop
 |0,_=>False
 |m+1,l=>l.length≤5000∧∀s∈l,OkS n s∧okB n m s.th∧okB n m s.el
theorem RH {n m:Nat} {l:List Sm} (h:okB n m l):okB n m []:=by
 cases m with
 |zero=>exact h.elim
 |succ m=>exact⟨Nat.zero_le _,fun s hs=>by cases hs⟩
def okF (f:Fn):Prop:=f.ps.length≤5000∧f.ls.length≤5000
end Go.Proofs.Ytjnnmindcbgjhaa
namespace Go.Proofs.Ytjnnmindcbgjhaa
open Go Go.Sy Go.RowKit
def aA (nm:List UInt8):List Vr→Int
 |[]=>0
 |v::l=>if (v.s==nm)=true then (if v.p=true then 2 else 1) else aA nm l
def Cn (f:Fn) (nm:List UInt8):Int:=aA nm (f.ps++f.ls)
abbrev Yf (f:Fn) (nm:List UInt8):Prop:=okF f
abbrev Ki (f:Fn) (nm:List UInt8):SV:=.one (.v (.int .i64 (Cn f nm)))
noncomputable abbrev UH:ArgC ((Fn)×(List UInt8)×Unit):=(acS (cFn) (acS (cStr) ac0))
abbrev lL:Prop:=Cc Try.prog 91 UH (fun p:(Fn)×(List UInt8)×Unit=>Yf p.1 p.2.1) (fun p:(Fn)×(List UInt8)×Unit=>Ki p.1 p.2.1)
theorem lM:∀p:(Fn)×(List UInt8)×Unit,((fun p:(Fn)×(List UInt8)×Unit=>Ki p.1 p.2.1) p).names=[]:=by intro p;first|rfl|exact Ff _|exact H9 _
theorem tW:lL:=by
 rintro ⟨f,nm,_u⟩ w fz xs hc hfz hl hx
 refine Bj Try.func91 rfl w fz [] [] UH (fun p:(Fn)×(List UInt8)×Unit=>Ki p.1 p.2.1) _ xs hfz hl hx (jN rfl) ?_
 clear hx hl hfz xs
 simp only[Try.f91]
 obtain⟨hc1,hc2⟩:=hc
 dsimp only at hc1 hc2
 simp only[↓eB,seval,go_sem,AE,AF,BN,BE,BO,BP,BJ,BQ,Fn.c,AX,AA,AB,AK,Fe]
 refine⟨⟨fun q h=>(by cases h;rfl),VX _ Ye _,by omega,by omega⟩,⟨fun q h=>(by cases h;rfl),VX _ Ye _,by omega,by omega⟩,Cs (by kernel_rfl),?_⟩
 refine Ab (Y:=Nat) (fun i=>i≤(f.ps++f.ls).length∧aA nm ((f.ps++f.ls).drop i)=Cn f nm)
  (fun i=>⟨[(1,true,.one (.v (.string (bs nm)))),(5,true,.one (.s 1000)),(6,true,.one (.v (.int .i64 (i:Int))))],[(1000,.vec 0 zVc ((f.ps++f.ls).map Vr.c))]⟩)
  (fun i=>(f.ps++f.ls).length-i) 0 ⟨Nat.zero_le _,rfl⟩ ?_ ?_
 ·refine A4 [.mv 12 1000] ?_;simp only[↓eB,seval,go_sem,CX.mv,CX.fn,zVc,List.map_append,List.flatMap_append]
 ·rintro i ⟨hi,hJ⟩
  refine Au [] [] _ _ _ ?_
  have hsm:(f.ps++f.ls).length≤4294967296:=by simp only[List.length_append];omega
  generalize f.ps++f.ls=L at hi hJ hsm ⊢
  cases hx:L[i]? with
  |none=>
   have hi2:L.length≤i:=List.getElem?_eq_none_iff.1 hx
   have h1:=BG hi2
   rw[List.drop_eq_nil_of_le hi2]at hJ
   have hR:Cn f nm=0:=hJ.symm
   simp only[↓eB,seval,go_sem,h1]
   refine A0 [] ?_;simp only[↓eB,seval,go_sem,bne,Ki,hR]
  |some x=>
   have hlt:i<L.length:=(List.getElem?_eq_some_iff.1 hx).1
   have h1:=BF hlt
   have h2:=FH hlt
   have h3:=a8 hx
   have h4:=ED hi hsm
   rw[CA hx]at hJ
   simp only[aA]at hJ
   simp only[↓eB,seval,go_sem,h1,h2,h3,h4,zVc,Vr.c]
   simp only[A2,A3]
   refine⟨hlt,hlt,fun hb=>⟨hlt,hlt,fun hc=>?_,fun hc=>?_⟩,fun hb=>?_⟩
   ·rw[if_pos hb,if_pos hc]at hJ
    refine A0 [] ?_;simp only[↓eB,seval,go_sem,bne,Ki,← hJ]
   ·rw[if_pos hb,if_neg (by rw[hc];decide)]at hJ
    refine A0 [] ?_;simp only[↓eB,seval,go_sem,bne,Ki,← hJ]
   ·rw[if_neg (by rw[hb];decide)]at hJ
    refine⟨i+1,⟨hlt,hJ⟩,by omega,A4 [] ?_⟩
    simp only[↓eB,seval,go_sem,CX.fn]
noncomputable def CE {X:Ctx} {w0:World}:Sy.Spec Try.prog X w0:=DD 91 Try.call91 UH (fun p:(Fn)×(List UInt8)×Unit=>Yf p.1 p.2.1) (fun p:(Fn)×(List UInt8)×Unit=>Ki p.1 p.2.1) lM tW
def Mr (f:Fn):Ex→Bool
 | .nil=>false
 | .mk k _ s _ _=>k==1&&Cn f s==2
abbrev T9 (f:Fn) (e:Ex):Prop:=okF f
abbrev Iu (f:Fn) (e:Ex):SV:=.one (.v (.bool (Mr f e)))
noncomputable abbrev Pa:ArgC ((Fn)×(Ex)×Unit):=(acS (cFn) (acS (cEx) ac0))
abbrev aB:Prop:=Cc Try.prog 92 Pa (fun p:(Fn)×(Ex)×Unit=>T9 p.1 p.2.1) (fun p:(Fn)×(Ex)×Unit=>Iu p.1 p.2.1)
theorem aC:∀p:(Fn)×(Ex)×Unit,((fun p:(Fn)×(Ex)×Unit=>Iu p.1 p.2.1) p).names=[]:=by intro p;first|rfl|exact Ff _|exact H9 _
attribute[local go_sem] Fn.c BJ BP BQ BE BN BO AF AE AX AB AA AK CE in
theorem br:aB:=by
 rintro ⟨f,e,_u⟩ w fz xs hc hfz hl hx
 refine Bj Try.func92 rfl w fz [CE] [] Pa (fun p:(Fn)×(Ex)×Unit=>Iu p.1 p.2.1) _ xs hfz hl hx (jN rfl) ?_
 clear hx hl hfz xs
 simp only[Try.f92]
 have hc1:okF f:=hc
 cases e with
 |nil=>
  simp only[↓eB,seval,go_sem,AY]
  try simp only[A2,A3]
  repeat' first|exact ck|with_reducible apply And.intro|intro _
  all_goals first|exact hc1|(rename_i h;first|exact oI h|exact nah h)|(rename_i _ h _ g;exact sL h g)|decide|omega|(refine A0 [] ?_;simp only[↓eB,seval,go_sem,bne,Iu,Mr])
 |mk k n s a b=>
  simp only[↓eB,seval,go_sem,DK]
  try simp only[A2,A3]
  repeat' first|exact ck|with_reducible apply And.intro|intro _
  all_goals first|exact hc1|(rename_i h;first|exact oI h|exact nah h)|(rename_i _ h _ g;exact sL h g)|decide|omega|(refine A0 [] ?_;simp only[↓eB,seval,go_sem,bne,Iu,Mr])
noncomputable def Bt {X:Ctx} {w0:World}:Sy.Spec Try.prog X w0:=DD 92 Try.call92 Pa (fun p:(Fn)×(Ex)×Unit=>T9 p.1 p.2.1) (fun p:(Fn)×(Ex)×Unit=>Iu p.1 p.2.1) aC br
def FA (f:Fn):Ex→Bool
 | .nil=>true
 | .mk k _ s a b=>if (k==1)=true then Cn f s != 2 else FA f a&&FA f b
def QU (f:Fn):Cd→Bool
 | .nil=>true
 | .mk k a b p q s=>if (k==9)=true then Cn f s==2 else FA f a&&FA f b&&QU f p&&QU f q
abbrev Yg (n:Nat) (f:Fn) (e:Ex):Prop:=okF f∧e.dp<n
abbrev Kj (n:Nat) (f:Fn) (e:Ex):SV:=.one (.v (.bool (FA f e)))
noncomputable abbrev UI:ArgC ((Fn)×(Ex)×Unit):=(acS (cFn) (acS (cEx) ac0))
abbrev RI (n:Nat):Prop:=Cc Try.prog 93 UI (fun p:(Fn)×(Ex)×Unit=>Yg n p.1 p.2.1) (fun p:(Fn)×(Ex)×Unit=>Kj n p.1 p.2.1)
theorem lN (n:Nat):∀p:(Fn)×(Ex)×Unit,((fun p:(Fn)×(Ex)×Unit=>Kj n p.1 p.2.1) p).names=[]:=by intro p;first|rfl|exact Ff _|exact H9 _
noncomputable def Ca {X:Ctx} {w0:World} (n:Nat) (h:RI n):Sy.Spec Try.prog X w0:=DD 93 Try.call93 UI (fun p:(Fn)×(Ex)×Unit=>Yg n p.1 p.2.1) (fun p:(Fn)×(Ex)×Unit=>Kj n p.1 p.2.1) (lN n) h
attribute[local go_sem] Fn.c BJ BP BQ BE BN BO AF AE AX AB AA AK Ca CE in
theorem lO (n:Nat) (hu:RI n):RI (n+1):=by
 rintro ⟨f,e,_u⟩ w fz xs hc hfz hl hx
 refine Bj Try.func93 rfl w fz [CE,(Ca n hu)] [] UI (fun p:(Fn)×(Ex)×Unit=>Kj (n+1) p.1 p.2.1) _ xs hfz hl hx (jN rfl) ?_
 clear hx hl hfz xs
 simp only[Try.f93]
 obtain⟨hc1,hc2⟩:=hc
 dsimp only at hc1 hc2
 cases e with
 |nil=>
  simp only[↓eB,seval,go_sem,AY]
  try simp only[A2,A3]
  repeat' first|exact ck|with_reducible apply And.intro|intro _
  all_goals first|exact hc1|(rename_i h;first|exact oI h|exact nah h)|(rename_i _ h _ g;exact sL h g)|decide|omega|(refine A0 [] ?_;simp only[↓eB,seval,go_sem,bne,Kj,FA])
 |mk k n' s a b=>
  simp only[Ex.dp]at hc2
  cases hk:(k==1) with
  |true=>
   simp only[↓eB,seval,go_sem,DK,hk]
   try simp only[A2,A3]
   repeat' first|exact ck|with_reducible apply And.intro|intro _
   all_goals first|exact hc1|(rename_i h;first|exact oI h|exact nah h)|(rename_i _ h _ g;exact sL h g)|decide|omega|(refine A0 [] ?_;simp only[↓eB,seval,go_sem,bne,Kj,FA,hk])
  |false=>
   simp only[↓eB,seval,go_sem,DK,hk]
   try simp only[A2,A3]
   repeat' first|exact ck|with_reducible apply And.intro|intro _
   all_goals first|exact hc1|(rename_i h;first|exact oI h|exact nah h)|(rename_i _ h _ g;exact sL h g)|decide|omega|(refine A0 [] ?_;simp only[↓eB,seval,go_sem,bne,Kj,FA,hk])
theorem TA:∀n:Nat,RI n
 |0=>by
  rintro ⟨f,e,_u⟩ w fz xs hc hfz hl hx
  exact absurd hc.2 (Nat.not_lt_zero _)
 |n+1=>lO n (TA n)
abbrev Wk (n:Nat) (f:Fn) (e:Cd):Prop:=okF f∧e.dp<n
abbrev Ja (n:Nat) (f:Fn) (e:Cd):SV:=.one (.v (.bool (QU f e)))
noncomputable abbrev SI:ArgC ((Fn)×(Cd)×Unit):=(acS (cFn) (acS (cCd) ac0))
abbrev Pb (n:Nat):Prop:=Cc Try.prog 94 SI (fun p:(Fn)×(Cd)×Unit=>Wk n p.1 p.2.1) (fun p:(Fn)×(Cd)×Unit=>Ja n p.1 p.2.1)
theorem fP (n:Nat):∀p:(Fn)×(Cd)×Unit,((fun p:(Fn)×(Cd)×Unit=>Ja n p.1 p.2.1) p).names=[]:=by intro p;first|rfl|exact Ff _|exact H9 _
noncomputable def CM {X:Ctx} {w0:World} (n:Nat) (h:Pb n):Sy.Spec Try.prog X w0:=DD 94 Try.call94 SI (fun p:(Fn)×(Cd)×Unit=>Wk n p.1 p.2.1) (fun p:(Fn)×(Cd)×Unit=>Ja n p.1 p.2.1) (fP n) h
attribute[local go_sem] Fn.c BJ BP BQ BE BN BO AF AE AX AB AA AK CM Ca CE in
theorem fQ (n:Nat) (hu:Pb n):Pb (n+1):=by
 rintro ⟨f,e,_u⟩ w fz xs hc hfz hl hx
 refine Bj Try.func94 rfl w fz [CE,(Ca n (TA n)),(CM n hu)] [] SI (fun p:(Fn)×(Cd)×Unit=>Ja (n+1) p.1 p.2.1) _ xs hfz hl hx (jN rfl) ?_
 clear hx hl hfz xs
 simp only[Try.f94]
 obtain⟨hc1,hc2⟩:=hc
 dsimp only at hc1 hc2
 cases e with
 |nil=>
  simp only[↓eB,seval,go_sem,Ao]
  try simp only[A2,A3]
  repeat' first|exact ck|with_reducible apply And.intro|intro _
  all_goals first|exact hc1|(rename_i h;first|exact oI h|exact nah h)|(rename_i _ h _ g;exact sL h g)|decide|omega|(refine A0 [] ?_;simp only[↓eB,seval,go_sem,bne,Ja,QU])
 |mk k a b p q s=>
  simp only[Cd.dp]at hc2
  cases hk:(k==9) with
  |true=>
   simp only[↓eB,seval,go_sem,DA,hk]
   try simp only[A2,A3]
   repeat' first|exact ck|with_reducible apply And.intro|intro _
   all_goals first|exact hc1|(rename_i h;first|exact oI h|exact nah h)|(rename_i _ h _ g;exact sL h g)|decide|omega|(refine A0 [] ?_;simp only[↓eB,seval,go_sem,bne,Ja,QU,hk])
  |false=>
   simp only[↓eB,seval,go_sem,DA,hk]
   try simp only[A2,A3]
   repeat' first|exact ck|with_reducible apply And.intro|intro _
   all_goals first|exact hc1|(rename_i h;first|exact oI h|exact nah h)|(rename_i _ h _ g;exact sL h g)|decide|omega|(refine A0 [] ?_;simp only[↓eB,seval,go_sem,bne,Ja,QU,hk])
theorem UJ:∀n:Nat,Pb n
 |0=>by
  rintro ⟨f,e,_u⟩ w fz xs hc hfz hl hx
  exact absurd hc.2 (Nat.not_lt_zero _)
 |n+1=>fQ n (UJ n)
end Go.Proofs.Ytjnnmindcbgjhaa
