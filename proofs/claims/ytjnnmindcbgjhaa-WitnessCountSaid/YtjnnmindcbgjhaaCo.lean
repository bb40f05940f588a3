/- Codings of trees, statements, functions. No conditions but those in each statement. -/
import Derived.Test.YtjnnmindcbgjhaaAt
import Derived.Test.YtjnnmindcbgjhaaMi1
set_option linter.unusedVariables false
set_option linter.unusedSimpArgs false
set_option maxRecDepth 20000
set_option maxHeartbeats 8000000
namespace Go.Proofs.Ytjnnmindcbgjhaa
open Go Go.Sy Go.RowKit
theorem FP {c:C} {z z':List D} {es es':List (List D)} (h:leC c (.d (.sl z es))) (h':leC c (.d (.sl z' es'))):es=es':=by
 rcases h with rfl|⟨h1,h2⟩
 ·rcases h' with h|⟨h3,h4⟩
  ·simp only[C.d.injEq,D.sl.injEq]at h;exact h.2
  ·cases h3
 ·obtain rfl:=RY h1
  rcases h' with h|⟨h3,h4⟩
  ·cases h
  ·obtain⟨_,he⟩:=Ls h2
   obtain⟨_,he'⟩:=Ls h4
   simp only[C.d.injEq,D.sl.injEq]at he he'
   rw[he.2,he'.2]
theorem TA {c:C} {x y:Value} (h:leC c (.v x)) (h':leC c (.v y)):x=y:=by
 rcases h with rfl|⟨_,h2⟩
 ·rcases h' with h|⟨_,h4⟩
  ·simpa using h
  ·cases h4
 ·cases h2
theorem TB {c:C} {d d':D} (hd:∀z,oD d≠.d (.sl z [])) (hd':∀z,oD d'≠.d (.sl z [])) (h:leC c (oD d)) (h':leC c (oD d')):oD d=oD d':=by
 rcases h with rfl|⟨_,h2⟩
 ·rcases h' with h|⟨_,h4⟩
  ·exact h
  ·obtain⟨z,h⟩:=Ls h4;exact absurd h (hd' z)
 ·obtain⟨z,h⟩:=Ls h2;exact absurd h (hd z)
theorem bg {a b:D} (h:oD a=oD b):a=b:=by cases a<;>cases b<;>simp_all [oD]
theorem UG {a b:Ex} (h:exC a=exC b):a=b:=K0 (bg h)
theorem YU {a b:Cd} (h:cdC a=cdC b):a=b:=RQ (bg h)
theorem Od (e:Ex):∀z,oD e.d≠.d (.sl z []):=by intro z;cases e<;>simp[Ex.d,oD]
theorem TC (e:Cd):∀z,oD e.d≠.d (.sl z []):=by intro z;cases e<;>simp[Cd.d,oD]
noncomputable def cEx:Cod Ex:=GZ (fun e=>.one (exC e)) (fun v a b h h'=>by
 cases v with
 |one c=>exact UG (TB (Od a) (Od b) h h')
 |agg l=>exact h.elim
 |tup l=>exact h.elim) (fun e=>Ff e)
theorem BN (e:Ex):cEx.e e= .one (exC e):=rfl
theorem BC (e:Ex):cEx.d (.one (exC e))=some e:=Db (e:=fun e=>.one (exC e)) (Do _)
theorem BO:cEx.d (.one (.v (.pointer none)))=some .nil:=BC .nil
noncomputable def cCd:Cod Cd:=GZ (fun e=>.one (cdC e)) (fun v a b h h'=>by
 cases v with
 |one c=>exact YU (TB (TC a) (TC b) h h')
 |agg l=>exact h.elim
 |tup l=>exact h.elim) (fun e=>H9 e)
theorem BP (e:Cd):cCd.e e= .one (cdC e):=rfl
theorem BG (e:Cd):cCd.d (.one (cdC e))=some e:=Db (e:=fun e=>.one (cdC e)) (Do _)
theorem BQ:cCd.d (.one (.v (.pointer none)))=some .nil:=BG .nil
theorem zK (v:SV) (a b:Fn) (h:leV v (.agg a.c)) (h':leV v (.agg b.c)):a=b:=by
 cases v with
 |one c=>exact h.elim
 |tup l=>exact h.elim
 |agg l=>
  obtain⟨n,ps,ls,bd⟩:=a
  obtain⟨n',ps',ls',bd'⟩:=b
  match l,h,h' with
  |[c0,c1,c2,c3],⟨h0,h1,h2,h3,_⟩,⟨g0,g1,g2,g3,_⟩=>
   have e0:=TA h0 g0
   simp only[Value.string.injEq]at e0
   have k0:=bs_inj e0
   have k1:=Ay Qe (FP h1 g1)
   have k2:=Ay Qe (FP h2 g2)
   have k3:=Ay Mw (FP h3 g3)
   simp only at k0 k1 k2 k3
   subst k0;subst k1;subst k2;subst k3;rfl
noncomputable def cFn:Cod Fn:=GZ (fun f=>.agg f.c) zK (fun f=>rfl)
theorem AE (f:Fn):cFn.e f= .agg f.c:=rfl
theorem AF (n:List UInt8) (ps ls:List Vr) (bd:List Sm):cFn.d (.agg [.v (.string (bs n)),.d (.sl zVr (ps.map Vr.r)),.d (.sl zVr (ls.map Vr.r)),.d (.sl zSm (bd.map Sm.r))])=some ⟨n,ps,ls,bd⟩:=Db (e:=fun f:Fn=>.agg f.c) (a:=⟨n,ps,ls,bd⟩) (Do _)
theorem AX (f:Fn):(⟨f.name,f.ps,f.ls,f.body⟩:Fn)=f:=rfl
theorem Fe (l:List Vr):(l.map Vr.r).map (fun r=>r.map oD)=l.map Vr.c:=by rw[List.map_map];rfl
theorem Zq {l:List Vr} {i:Nat} {x:Vr} (h:l[i]?=some x):(l.map Vr.c).getD i [.v (.string (bs [])),.v (.bool false)]=x.c:=by simp[List.getD,h]
theorem YV (a:Vr):∀c∈a.c,C.stor c=true:=by
 intro c hc;simp only[Vr.c,List.mem_cons,List.not_mem_nil,or_false]at hc;rcases hc with rfl|rfl<;>rfl
theorem AA {A B:Type} (x:Option A):S5 x (none:Option B)=none:=by cases x<;>rfl
theorem AB {A B:Type} (x:Option B):S5 (none:Option A) x=none:=rfl
theorem AK {A:Type} (Cd:A→Prop) (F:A→SV):OY (none:Option A) Cd F=none:=rfl
def Ex.dp:Ex→Nat
 | .nil=>0
 | .mk _ _ _ a b=>max a.dp b.dp+1
def Cd.dp:Cd→Nat
 | .nil=>0
 | .mk _ a b p q _=>max (max a.dp b.dp) (max p.dp q.dp)+1
theorem zL (v:SV) (a b:Sm) (h:leV v (.agg a.c)) (h':leV v (.agg b.c)):a=b:=by
 cases v with
 |one c=>exact h.elim
 |tup l=>exact h.elim
 |agg l=>
  obtain⟨k,x,y,e,f,cd,ar,th,el,no⟩:=a
  obtain⟨k',x',y',e',f',cd',ar',th',el',no'⟩:=b
  match l,h,h' with
  |[c0,c1,c2,c3,c4,c5,c6,c7,c8,c9],⟨h0,h1,h2,h3,h4,h5,h6,h7,h8,h9,_⟩,⟨g0,g1,g2,g3,g4,g5,g6,g7,g8,g9,_⟩=>
   have e0:=TA h0 g0
   have e1:=TA h1 g1
   have e2:=TA h2 g2
   have e9:=TA h9 g9
   simp only[Value.string.injEq,Value.int.injEq,true_and]at e0 e1 e2 e9
   have k1:=bs_inj e1
   have k2:=bs_inj e2
   have k3:=UG (TB (Od _) (Od _) h3 g3)
   have k4:=UG (TB (Od _) (Od _) h4 g4)
   have k5:=YU (TB (TC _) (TC _) h5 g5)
   have k6:=Ay bk (FP h6 g6)
   have k7:=Ay Mw (FP h7 g7)
   have k8:=Ay Mw (FP h8 g8)
   simp only[Sm.k,Sm.x,Sm.y,Sm.e,Sm.f,Sm.cd,Sm.ar,Sm.th,Sm.el,Sm.no]at e0 k1 k2 k3 k4 k5 k6 k7 k8 e9
   subst e0;subst k1;subst k2;subst k3;subst k4;subst k5;subst k6;subst k7;subst k8;subst e9;rfl
noncomputable def cSm:Cod Sm:=GZ (fun s=>.agg s.c) zL (fun s=>List.flatMap_eq_nil_iff.2 (GY.nm s))
theorem C6 (s:Sm):cSm.e s= .agg s.c:=rfl
theorem sS (s:Sm):cSm.d (.agg s.c)=some s:=Db (e:=fun s:Sm=>.agg s.c) (Do _)
theorem C7 (k no:Int) (x y:List UInt8) (e f:Ex) (cd:Cd) (ar:List Ar) (th el:List Sm):cSm.d (.agg [.v (.int .i64 k),.v (.string (bs x)),.v (.string (bs y)),exC e,exC f,cdC cd,.d (.sl zAr (ar.map Ar.r)),.d (.sl zSm (th.map Sm.r)),.d (.sl zSm (el.map Sm.r)),.v (.int .i64 no)])=some (.mk k x y e f cd ar th el no):=sS (.mk k x y e f cd ar th el no)
theorem C1 (k n:Int) (s:List UInt8) (a b:Ex):cEx.d (.one (.d (.pt (some [.v (.int .i64 k),.v (.int .i64 n),.v (.string (bs s)),a.d,b.d]))))=some (.mk k n s a b):=BC (.mk k n s a b)
theorem sT (s:Sm) (b:Bool):(SV.tup [.inr s.c,.inl (.v (.bool b))]).names=[]:=by
 have h:pNames (.inr s.c)=[]:=List.flatMap_eq_nil_iff.2 (GY.nm s)
 simp only[SV.names,List.flatMap_cons,List.flatMap_nil,h];rfl
theorem BS (l:List Ar):(l.map Ar.r).map (fun r=>r.map oD)=l.map Ar.c:=by rw[List.map_map];rfl
theorem zM {l:List Ar} {i:Nat} {x:Ar} (h:l[i]?=some x):(l.map Ar.c).getD i [.v (.bool false),.v (.string (bs [])),.v (.pointer none)]=x.c:=by simp[List.getD,h]
def fl4:List C:=[.v (.bool false),.v (.bool false),.v (.bool false),.v (.bool false)]
def M7:List C:=[.v (.bool false),.v (.bool false),.v (.bool false),.v (.bool false),.v (.bool false),.v (.bool false),.v (.bool false),.v (.bool false),.v (.bool false),.v (.bool false)]
structure OkS (n:Nat) (s:Sm):Prop where
 e:s.e.dp<n
 f:s.f.dp<n
 c:s.cd.dp<n
 a:∀a∈s.ar,a.e.dp<n
 l:s.ar.length≤5000
noncomputable def cSs:Cod (List Sm):=GZ (fun l=>.one (.d (.sl zSm (l.map Sm.r)))) (fun v a b h h'=>by
 cases v with
 |one c=>exact Ay Mw (FP h h')
 |agg l=>exact h.elim
 |tup l=>exact h.elim) (fun l=>rfl)
theorem Cx (l:List Sm):cSs.e l= .one (.d (.sl zSm (l.map Sm.r))):=rfl
theorem Cy (l:List Sm):cSs.d (.one (.d (.sl zSm (l.map Sm.r))))=some l:=Db (e:=fun l:List Sm=>.one (.d (.sl zSm (l.map Sm.r)))) (Do _)
def okB (n:Nat):Nat→List Sm→Prop
 |0,_=>False
 |m+1,l=>l.length≤5000∧∀s∈l,OkS n s∧okB n m s.th∧okB n m s.el
theorem YW {n m:Nat} {l:List Sm} (h:okB n m l):okB n m []:=by
 cases m with
 |zero=>exact h.elim
 |succ m=>exact⟨Nat.zero_le _,fun s hs=>by cases hs⟩
def okF (f:Fn):Prop:=f.ps.length≤5000∧f.ls.length≤5000
end Go.Proofs.Ytjnnmindcbgjhaa
namespace Go.Proofs.Ytjnnmindcbgjhaa
open Go Go.Sy Go.RowKit
def Zr (nm:List UInt8):List Vr→Int
 |[]=>0
 |v::l=>if (v.s==nm)=true then (if v.p=true then 2 else 1) else Zr nm l
def Cq (f:Fn) (nm:List UInt8):Int:=Zr nm (f.ps++f.ls)
abbrev YX (f:Fn) (nm:List UInt8):Prop:=okF f
abbrev Kk (f:Fn) (nm:List UInt8):SV:=.one (.v (.int .i64 (Cq f nm)))
noncomputable abbrev UH:ArgC ((Fn)×(List UInt8)×Unit):=(acS (cFn) (acS (cStr) ac0))
abbrev kQ:Prop:=CY Try.prog 91 UH (fun p:(Fn)×(List UInt8)×Unit=>YX p.1 p.2.1) (fun p:(Fn)×(List UInt8)×Unit=>Kk p.1 p.2.1)
theorem kR:∀p:(Fn)×(List UInt8)×Unit,((fun p:(Fn)×(List UInt8)×Unit=>Kk p.1 p.2.1) p).names=[]:=by intro p;first|rfl|exact Ff _|exact H9 _
theorem sU:kQ:=by
 rintro ⟨f,nm,_u⟩ w fz xs hc hfz hl hx
 refine BH Try.func91 rfl w fz [] [] UH (fun p:(Fn)×(List UInt8)×Unit=>Kk p.1 p.2.1) _ xs hfz hl hx (jN rfl) ?_
 clear hx hl hfz xs
 simp only[Try.f91]
 obtain⟨hc1,hc2⟩:=hc
 dsimp only at hc1 hc2
 simp only[↓eB,seval,go_sem,AE,AF,BN,BC,BO,BP,BG,BQ,Fn.c,AX,AA,AB,AK,Fe]
 refine⟨⟨fun q h=>(by cases h;rfl),VQ _ YV _,by omega,by omega⟩,⟨fun q h=>(by cases h;rfl),VQ _ YV _,by omega,by omega⟩,CT (by kernel_rfl),?_⟩
 refine Aa (Y:=Nat) (fun i=>i≤(f.ps++f.ls).length∧Zr nm ((f.ps++f.ls).drop i)=Cq f nm)
  (fun i=>⟨[(1,true,.one (.v (.string (bs nm)))),(5,true,.one (.s 1000)),(6,true,.one (.v (.int .i64 (i:Int))))],[(1000,.vec 0 zVc ((f.ps++f.ls).map Vr.c))]⟩)
  (fun i=>(f.ps++f.ls).length-i) 0 ⟨Nat.zero_le _,rfl⟩ ?_ ?_
 ·refine A4 [.mv 12 1000] ?_;simp only[↓eB,seval,go_sem,CZ.mv,CZ.fn,zVc,List.map_append,List.flatMap_append]
 ·rintro i ⟨hi,hJ⟩
  refine Ap [] [] _ _ _ ?_
  have hsm:(f.ps++f.ls).length≤4294967296:=by simp only[List.length_append];omega
  generalize f.ps++f.ls=L at hi hJ hsm ⊢
  cases hx:L[i]? with
  |none=>
   have hi2:L.length≤i:=List.getElem?_eq_none_iff.1 hx
   have h1:=BF hi2
   rw[List.drop_eq_nil_of_le hi2]at hJ
   have hR:Cq f nm=0:=hJ.symm
   simp only[↓eB,seval,go_sem,h1]
   refine A0 [] ?_;simp only[↓eB,seval,go_sem,bne,Kk,hR]
  |some x=>
   have hlt:i<L.length:=(List.getElem?_eq_some_iff.1 hx).1
   have h1:=BE hlt
   have h2:=FI hlt
   have h3:=Zq hx
   have h4:=ED hi hsm
   rw[Bo hx]at hJ
   simp only[Zr]at hJ
   simp only[↓eB,seval,go_sem,h1,h2,h3,h4,zVc,Vr.c]
   simp only[A2,A3]
   refine⟨hlt,hlt,fun hb=>⟨hlt,hlt,fun hc=>?_,fun hc=>?_⟩,fun hb=>?_⟩
   ·rw[if_pos hb,if_pos hc]at hJ
    refine A0 [] ?_;simp only[↓eB,seval,go_sem,bne,Kk,← hJ]
   ·rw[if_pos hb,if_neg (by rw[hc];decide)]at hJ
    refine A0 [] ?_;simp only[↓eB,seval,go_sem,bne,Kk,← hJ]
   ·rw[if_neg (by rw[hb];decide)]at hJ
    refine⟨i+1,⟨hlt,hJ⟩,by omega,A4 [] ?_⟩
    simp only[↓eB,seval,go_sem,CZ.fn]
noncomputable def CE {X:Ctx} {w0:World}:Sy.Spec Try.prog X w0:=D5 91 Try.call91 UH (fun p:(Fn)×(List UInt8)×Unit=>YX p.1 p.2.1) (fun p:(Fn)×(List UInt8)×Unit=>Kk p.1 p.2.1) kR sU
def Mu (f:Fn):Ex→Bool
 | .nil=>false
 | .mk k _ s _ _=>k==1&&Cq f s==2
abbrev TD (f:Fn) (e:Ex):Prop:=okF f
abbrev Iv (f:Fn) (e:Ex):SV:=.one (.v (.bool (Mu f e)))
noncomputable abbrev Pl:ArgC ((Fn)×(Ex)×Unit):=(acS (cFn) (acS (cEx) ac0))
abbrev Zs:Prop:=CY Try.prog 92 Pl (fun p:(Fn)×(Ex)×Unit=>TD p.1 p.2.1) (fun p:(Fn)×(Ex)×Unit=>Iv p.1 p.2.1)
theorem Zt:∀p:(Fn)×(Ex)×Unit,((fun p:(Fn)×(Ex)×Unit=>Iv p.1 p.2.1) p).names=[]:=by intro p;first|rfl|exact Ff _|exact H9 _
attribute[local go_sem] Fn.c BG BP BQ BC BN BO AF AE AX AB AA AK CE in
theorem bh:Zs:=by
 rintro ⟨f,e,_u⟩ w fz xs hc hfz hl hx
 refine BH Try.func92 rfl w fz [CE] [] Pl (fun p:(Fn)×(Ex)×Unit=>Iv p.1 p.2.1) _ xs hfz hl hx (jN rfl) ?_
 clear hx hl hfz xs
 simp only[Try.f92]
 have hc1:okF f:=hc
 cases e with
 |nil=>
  simp only[↓eB,seval,go_sem,AY]
  try simp only[A2,A3]
  repeat' first|exact ck|with_reducible apply And.intro|intro _
  all_goals first|exact hc1|(rename_i h;first|exact oI h|exact nah h)|(rename_i _ h _ g;exact sL h g)|decide|omega|(refine A0 [] ?_;simp only[↓eB,seval,go_sem,bne,Iv,Mu])
 |mk k n s a b=>
  simp only[↓eB,seval,go_sem,DL]
  try simp only[A2,A3]
  repeat' first|exact ck|with_reducible apply And.intro|intro _
  all_goals first|exact hc1|(rename_i h;first|exact oI h|exact nah h)|(rename_i _ h _ g;exact sL h g)|decide|omega|(refine A0 [] ?_;simp only[↓eB,seval,go_sem,bne,Iv,Mu])
noncomputable def Bt {X:Ctx} {w0:World}:Sy.Spec Try.prog X w0:=D5 92 Try.call92 Pl (fun p:(Fn)×(Ex)×Unit=>TD p.1 p.2.1) (fun p:(Fn)×(Ex)×Unit=>Iv p.1 p.2.1) Zt bh
def F9 (f:Fn):Ex→Bool
 | .nil=>true
 | .mk k _ s a b=>if (k==1)=true then Cq f s != 2 else F9 f a&&F9 f b
def Qc (f:Fn):Cd→Bool
 | .nil=>true
 | .mk k a b p q s=>if (k==9)=true then Cq f s==2 else F9 f a&&F9 f b&&Qc f p&&Qc f q
abbrev YY (n:Nat) (f:Fn) (e:Ex):Prop:=okF f∧e.dp<n
abbrev Kl (n:Nat) (f:Fn) (e:Ex):SV:=.one (.v (.bool (F9 f e)))
noncomputable abbrev UI:ArgC ((Fn)×(Ex)×Unit):=(acS (cFn) (acS (cEx) ac0))
abbrev RO (n:Nat):Prop:=CY Try.prog 93 UI (fun p:(Fn)×(Ex)×Unit=>YY n p.1 p.2.1) (fun p:(Fn)×(Ex)×Unit=>Kl n p.1 p.2.1)
theorem kS (n:Nat):∀p:(Fn)×(Ex)×Unit,((fun p:(Fn)×(Ex)×Unit=>Kl n p.1 p.2.1) p).names=[]:=by intro p;first|rfl|exact Ff _|exact H9 _
noncomputable def Cc {X:Ctx} {w0:World} (n:Nat) (h:RO n):Sy.Spec Try.prog X w0:=D5 93 Try.call93 UI (fun p:(Fn)×(Ex)×Unit=>YY n p.1 p.2.1) (fun p:(Fn)×(Ex)×Unit=>Kl n p.1 p.2.1) (kS n) h
attribute[local go_sem] Fn.c BG BP BQ BC BN BO AF AE AX AB AA AK Cc CE in
theorem kT (n:Nat) (hu:RO n):RO (n+1):=by
 rintro ⟨f,e,_u⟩ w fz xs hc hfz hl hx
 refine BH Try.func93 rfl w fz [CE,(Cc n hu)] [] UI (fun p:(Fn)×(Ex)×Unit=>Kl (n+1) p.1 p.2.1) _ xs hfz hl hx (jN rfl) ?_
 clear hx hl hfz xs
 simp only[Try.f93]
 obtain⟨hc1,hc2⟩:=hc
 dsimp only at hc1 hc2
 cases e with
 |nil=>
  simp only[↓eB,seval,go_sem,AY]
  try simp only[A2,A3]
  repeat' first|exact ck|with_reducible apply And.intro|intro _
  all_goals first|exact hc1|(rename_i h;first|exact oI h|exact nah h)|(rename_i _ h _ g;exact sL h g)|decide|omega|(refine A0 [] ?_;simp only[↓eB,seval,go_sem,bne,Kl,F9])
 |mk k n' s a b=>
  simp only[Ex.dp]at hc2
  cases hk:(k==1) with
  |true=>
   simp only[↓eB,seval,go_sem,DL,hk]
   try simp only[A2,A3]
   repeat' first|exact ck|with_reducible apply And.intro|intro _
   all_goals first|exact hc1|(rename_i h;first|exact oI h|exact nah h)|(rename_i _ h _ g;exact sL h g)|decide|omega|(refine A0 [] ?_;simp only[↓eB,seval,go_sem,bne,Kl,F9,hk])
  |false=>
   simp only[↓eB,seval,go_sem,DL,hk]
   try simp only[A2,A3]
   repeat' first|exact ck|with_reducible apply And.intro|intro _
   all_goals first|exact hc1|(rename_i h;first|exact oI h|exact nah h)|(rename_i _ h _ g;exact sL h g)|decide|omega|(refine A0 [] ?_;simp only[↓eB,seval,go_sem,bne,Kl,F9,hk])
theorem TE:∀n:Nat,RO n
 |0=>by
  rintro ⟨f,e,_u⟩ w fz xs hc hfz hl hx
  exact absurd hc.2 (Nat.not_lt_zero _)
 |n+1=>kT n (TE n)
abbrev Wa (n:Nat) (f:Fn) (e:Cd):Prop:=okF f∧e.dp<n
abbrev Jc (n:Nat) (f:Fn) (e:Cd):SV:=.one (.v (.bool (Qc f e)))
noncomputable abbrev SH:ArgC ((Fn)×(Cd)×Unit):=(acS (cFn) (acS (cCd) ac0))
abbrev Pm (n:Nat):Prop:=CY Try.prog 94 SH (fun p:(Fn)×(Cd)×Unit=>Wa n p.1 p.2.1) (fun p:(Fn)×(Cd)×Unit=>Jc n p.1 p.2.1)
theorem ej (n:Nat):∀p:(Fn)×(Cd)×Unit,((fun p:(Fn)×(Cd)×Unit=>Jc n p.1 p.2.1) p).names=[]:=by intro p;first|rfl|exact Ff _|exact H9 _
noncomputable def CM {X:Ctx} {w0:World} (n:Nat) (h:Pm n):Sy.Spec Try.prog X w0:=D5 94 Try.call94 SH (fun p:(Fn)×(Cd)×Unit=>Wa n p.1 p.2.1) (fun p:(Fn)×(Cd)×Unit=>Jc n p.1 p.2.1) (ej n) h
attribute[local go_sem] Fn.c BG BP BQ BC BN BO AF AE AX AB AA AK CM Cc CE in
theorem ek (n:Nat) (hu:Pm n):Pm (n+1):=by
 rintro ⟨f,e,_u⟩ w fz xs hc hfz hl hx
 refine BH Try.func94 rfl w fz [CE,(Cc n (TE n)),(CM n hu)] [] SH (fun p:(Fn)×(Cd)×Unit=>Jc (n+1) p.1 p.2.1) _ xs hfz hl hx (jN rfl) ?_
 clear hx hl hfz xs
 simp only[Try.f94]
 obtain⟨hc1,hc2⟩:=hc
 dsimp only at hc1 hc2
 cases e with
 |nil=>
  simp only[↓eB,seval,go_sem,Ao]
  try simp only[A2,A3]
  repeat' first|exact ck|with_reducible apply And.intro|intro _
  all_goals first|exact hc1|(rename_i h;first|exact oI h|exact nah h)|(rename_i _ h _ g;exact sL h g)|decide|omega|(refine A0 [] ?_;simp only[↓eB,seval,go_sem,bne,Jc,Qc])
 |mk k a b p q s=>
  simp only[Cd.dp]at hc2
  cases hk:(k==9) with
  |true=>
   simp only[↓eB,seval,go_sem,DC,hk]
   try simp only[A2,A3]
   repeat' first|exact ck|with_reducible apply And.intro|intro _
   all_goals first|exact hc1|(rename_i h;first|exact oI h|exact nah h)|(rename_i _ h _ g;exact sL h g)|decide|omega|(refine A0 [] ?_;simp only[↓eB,seval,go_sem,bne,Jc,Qc,hk])
  |false=>
   simp only[↓eB,seval,go_sem,DC,hk]
   try simp only[A2,A3]
   repeat' first|exact ck|with_reducible apply And.intro|intro _
   all_goals first|exact hc1|(rename_i h;first|exact oI h|exact nah h)|(rename_i _ h _ g;exact sL h g)|decide|omega|(refine A0 [] ?_;simp only[↓eB,seval,go_sem,bne,Jc,Qc,hk])
theorem UJ:∀n:Nat,Pm n
 |0=>by
  rintro ⟨f,e,_u⟩ w fz xs hc hfz hl hx
  exact absurd hc.2 (Nat.not_lt_zero _)
 |n+1=>ek n (UJ n)
end Go.Proofs.Ytjnnmindcbgjhaa
