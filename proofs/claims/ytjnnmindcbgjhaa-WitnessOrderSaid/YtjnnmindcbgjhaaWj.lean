/- The program's tries: candidates, how many, one of them, walked. Conditions: lengths; each list has one. -/
import Derived.Test.YtjnnmindcbgjhaaMk1
set_option linter.unusedVariables false
set_option linter.unusedSimpArgs false
set_option maxRecDepth 20000
set_option maxHeartbeats 16000000
namespace Go.Proofs.Ytjnnmindcbgjhaa
open Go Go.Sy Go.RowKit
def JS (l:List Va):List D:=[.sl ES (l.map Va.r)]
def L5 (l:List Va):List C:=[.d (.sl ES (l.map Va.r))]
def PX:List D:=[.v (.slice none 0 0)]
def UF:List C:=[.v (.slice none 0 0)]
theorem qc (a b:Va) (h:a.r=b.r):a=b:=by
 obtain⟨p,n,s⟩:=a
 obtain⟨p',n',s'⟩:=b
 simp only[Va.r,dI,dS,List.cons.injEq,D.v.injEq,Value.string.injEq,Value.int.injEq,Value.bool.injEq,true_and,and_true]at h
 obtain⟨rfl,rfl,h1⟩:=h
 rw[bs_inj h1]
theorem gx (a b:List Va) (h:JS a=JS b):a=b:=by
 simp only[JS,List.cons.injEq,D.sl.injEq,true_and,and_true]at h
 exact B2 qc h
noncomputable def cCh:Cod (List (List Va)):=Hk (fun l=>.one (.d (.sl PX (l.map JS)))) (fun v a b h h'=>by
 cases v with
 |one c=>exact B2 gx (FY h h')
 |agg l=>exact h.elim
 |tup l=>exact h.elim) (fun l=>rfl)
theorem Zv (l:List (List Va)):cCh.e l= .one (.d (.sl PX (l.map JS))):=rfl
theorem Zw (l:List (List Va)):cCh.d (.one (.d (.sl PX (l.map JS))))=some l:=E9 (e:=fun l:List (List Va)=>.one (.d (.sl PX (l.map JS)))) (EV _)
theorem qd (l:List (List Va)):List.flatMap (fun r=>List.flatMap C.names r) (l.map L5)=[]:=List.flatMap_eq_nil_iff.2 fun p hp=>by
 obtain⟨a,_,rfl⟩:=List.mem_map.1 hp
 rfl
theorem xk (k t:Nat) (l:List (List Va)):(l.map L5).map (fun r=>r.map (mvC k t))=l.map L5:=G1 L5 (fun _=>rfl) l
theorem qe (l:List (List Va)):D7 (l.map L5)=some (l.map JS):=FX L5 (fun _=>rfl) l
def fnd (f:List UInt8):List Fn→Option Fn
 |[]=>none
 |g::r=>if (g.name==f)=true then some g else fnd f r
def UG (P:Pg) (l:List Int) (v:Vr):List Va:=if v.p=true then Pi P else Ci l
def canF (P:Pg) (f:List UInt8) (l:List Int):List (List Va):=match fnd f P.fs with
 |some g=>g.ps.map (UG P l)
 |none=>[]
def NA (P:Pg) (l:List Int) (ps:List Vr) (i:Nat):List (List Va):=(ps.take i).map (UG P l)
theorem xm (P:Pg) (l:List Int) (ps:List Vr):NA P l ps 0=[]:=rfl
theorem dG (x:List Va):BS [[C.d (.sl ES (x.map Va.r))]]:=by
 intro r h c hc
 rw[List.mem_singleton.1 h,List.mem_singleton]at hc
 subst hc;rfl
theorem xo {l:List Vr} {i:Nat} {x:Vr} (h:l[i]?=some x) (z:List D):(l.map Vr.r).getD i z=x.r:=by simp[List.getD,h]
theorem xq {l:List Fn} {i:Nat} {x:Fn} (h:l[i]?=some x) (z:List D):(l.map Fn.r).getD i z=x.r:=by simp[List.getD,h]
abbrev Lc (p:Pg) (f:List UInt8) (l:List Int):Prop:=p.g.c.length≤1000000∧l.length≤1000000∧p.fs.length≤1000000∧∀g∈p.fs,g.ps.length≤5000
abbrev Ck (p:Pg) (f:List UInt8) (l:List Int):SV:=.tup [.inl (.d (.sl PX ((canF p f l).map JS))),.inl (.v (.bool (fnd f p.fs).isSome))]
noncomputable abbrev Ld:ArgC ((Pg)×(List UInt8)×(List Int)×Unit):=(acS (cPg) (acS (cStr) (acS (cI6) ac0)))
abbrev Uu:Prop:=Cg Try.prog 41 Ld (fun p:(Pg)×(List UInt8)×(List Int)×Unit=>Lc p.1 p.2.1 p.2.2.1) (fun p:(Pg)×(List UInt8)×(List Int)×Unit=>Ck p.1 p.2.1 p.2.2.1)
theorem Uv:∀p:(Pg)×(List UInt8)×(List Int)×Unit,((fun p:(Pg)×(List UInt8)×(List Int)×Unit=>Ck p.1 p.2.1 p.2.2.1) p).names=[]:=by intro p;rfl
attribute [local go_sem] Va.c Va.r Zw Zv Ox SD NF NE pgR Ve Yw Vd qe xk qd L5 JS
theorem X4:Uu:=by
 rintro ⟨p,f,l,_u⟩ w fz xs hc hfz hl hx
 refine Bw Try.func41 rfl w fz [HD,HE] [] Ld (fun p:(Pg)×(List UInt8)×(List Int)×Unit=>Ck p.1 p.2.1 p.2.2.1) _ xs hfz hl hx (jN rfl) ?_
 clear hx hl hfz xs
 simp only[Try.f41]
 obtain⟨h1,h2,h3,h4⟩:=hc
 obtain⟨⟨pc,pa⟩,pf⟩:=p
 dsimp only at h1 h2 h3 h4
 simp only[↓eB,seval,go_sem,HD,HE]
 refine Ac (Y:=Nat) (fun i=>i≤pf.length∧fnd f pf=fnd f (pf.drop i))
  (fun i=>⟨[(1,true,.one (.v (.string (bs f)))),(2,true,.one (.d (.sl zIw (l.map iD)))),(3,true,.one (.p 3 0 0)),(16,true,.one (.d (.sl zFn (pf.map Fn.r)))),(17,true,.one (.v (.int .i64 (pf.length:Int)))),(18,true,.one (.v (.int .i64 (i:Int))))],
   [(3,A4T pc pa pf)]⟩)
  (fun i=>pf.length-i) 0 ⟨Nat.zero_le _,rfl⟩ ?_ ?_
 ·refine A2 [] ?_;simp only[↓eB,seval,go_sem]
 ·rintro i ⟨hi,hJ⟩
  refine Aq [HD,HE] [] _ _ _ ?_
  have w1:IntKind.i64.wrap ((i:Int)+1)=((i+1:Nat):Int):=by rw[wrap_i64 (by omega) (by omega)];rfl
  cases hx:pf[i]? with
  |none=>
   have g2:=List.getElem?_eq_none_iff.1 hx
   have g1:=BA g2
   have hn:fnd f pf=none:=by rw[hJ,List.drop_eq_nil_of_le g2];rfl
   have hr:canF ⟨⟨pc,pa⟩,pf⟩ f l=[]:=by unfold canF;dsimp only;rw[hn]
   simp only[↓eB,seval,go_sem,HD,HE,g1]
   refine A0 [] ?_;simp only[↓eB,seval,go_sem,bne,Ck,hr,hn,Option.isSome_none]
  |some x=>
   have hlt:=(List.getElem?_eq_some_iff.1 hx).1
   have g1:=B9 hlt
   have hil:(i:Int)<(pf.length:Int):=by omega
   have hz:=xq hx
   have hps:=h4 x (List.mem_of_getElem? hx)
   rw[Bn hx]at hJ
   obtain⟨xn,xp,xl,xb⟩:=x
   dsimp only at hps
   cases hq:(xn==f) with
   |false=>
    have hJ2:fnd f pf=fnd f (pf.drop (i+1)):=by rw[hJ];exact if_neg (by rw[hq];decide)
    have hq2:(xn != f)=true:=by simp[bne,hq]
    simp only[↓eB,seval,go_sem,HD,HE,g1,hz,Fn.r,hq,hq2,w1]
    refine⟨⟨hil,rfl⟩,i+1,⟨hlt,hJ2⟩,(by omega),?_⟩
    refine A2 [] ?_;simp only[↓eB,seval,go_sem]
   |true=>
    have hJ2:fnd f pf=some ⟨xn,xp,xl,xb⟩:=by rw[hJ];exact if_pos hq
    have hq2:(xn != f)=false:=by simp[bne,hq]
    simp only[↓eB,seval,go_sem,HD,HE,g1,hz,Fn.r,hq,hq2]
    refine⟨⟨hil,rfl⟩,h1,h2,?_⟩
    refine Ac (Y:=Nat) (fun j=>j≤xp.length)
     (fun j=>⟨[(10,true,.one (.d (.sl ES ((Pi ⟨⟨pc,pa⟩,pf⟩).map Va.r)))),(11,true,.one (.d (.sl ES ((Ci l).map Va.r)))),(12,true,.one (.s 1000)),(31,true,.one (.d (.sl zVr (xp.map Vr.r)))),(32,true,.one (.v (.int .i64 (xp.length:Int)))),(33,true,.one (.v (.int .i64 ((j:Int)))))],[(1000,.vec 0 UF ((NA ⟨⟨pc,pa⟩,pf⟩ l xp (j)).map L5))]⟩)
     (fun j=>xp.length-j) 0 (Nat.zero_le _) ?_ ?_
    ·refine A2 [.nil 12 1000 UF] ?_;simp only[↓eB,seval,go_sem,UF,xm,HC,G3]
    ·rintro j hj
     refine Aq [] [] _ _ _ ?_
     have w2:IntKind.i64.wrap ((j:Int)+1)=((j+1:Nat):Int):=by rw[wrap_i64 (by omega) (by omega)];rfl
     cases hy:xp[j]? with
     |none=>
      have k2:=List.getElem?_eq_none_iff.1 hy
      have k1:=BA k2
      have hr:canF ⟨⟨pc,pa⟩,pf⟩ f l=NA ⟨⟨pc,pa⟩,pf⟩ l xp j:=by
       unfold canF NA;dsimp only;rw[hJ2,List.take_of_length_le k2]
      simp only[↓eB,seval,go_sem,k1]
      refine A0 [.fz 1000] ?_;simp only[↓eB,seval,go_sem,bne,Ck,hr,hJ2,Option.isSome_some,UF,PX]
     |some v=>
      have hlt2:=(List.getElem?_eq_some_iff.1 hy).1
      have k1:=B9 hlt2
      have hjl:(j:Int)<(xp.length:Int):=by omega
      have hv:=xo hy
      have hln:(NA ⟨⟨pc,pa⟩,pf⟩ l xp j).length=j:=by simp[NA];omega
      have ht:(NA ⟨⟨pc,pa⟩,pf⟩ l xp (j+1)).map L5=(NA ⟨⟨pc,pa⟩,pf⟩ l xp j).map L5++[[.d (.sl ES ((UG ⟨⟨pc,pa⟩,pf⟩ l v).map Va.r))]]:=by
       unfold NA;rw[List.take_add_one,hy];simp[L5]
      obtain⟨vs,vp⟩:=v
      cases vp with
      |true=>
       have hcv:UG ⟨⟨pc,pa⟩,pf⟩ l ⟨vs,true⟩=Pi ⟨⟨pc,pa⟩,pf⟩:=rfl
       rw[hcv]at ht
       simp only[↓eB,seval,go_sem,k1,hv,Vr.r,w2]
       refine⟨⟨hjl,rfl⟩,⟨⟨rfl,.inl rfl⟩,(fun q h=>by cases h;rfl),dG _,(by decide),(by omega),(by omega)⟩,j+1,hlt2,(by omega),B4 (t:=⟨[(10,true,.one (.d (.sl ES ((Pi ⟨⟨pc,pa⟩,pf⟩).map Va.r)))),(11,true,.one (.d (.sl ES ((Ci l).map Va.r)))),(12,true,.one (.s 42)),(31,true,.one (.d (.sl zVr (xp.map Vr.r)))),(32,true,.one (.v (.int .i64 (xp.length:Int)))),(33,true,.one (.v (.int .i64 (((j+1:Nat):Int)))))],[(42,.vec 0 UF ((NA ⟨⟨pc,pa⟩,pf⟩ l xp (j+1)).map L5))]⟩) ?_ ?_⟩
       ·refine A2 [] ?_;simp only[↓eB,seval,go_sem,ht,List.map_append,List.flatMap_append]
       ·refine A2 [.mv 42 1000] ?_;simp only[↓eB,seval,go_sem]
      |false=>
       have hcv:UG ⟨⟨pc,pa⟩,pf⟩ l ⟨vs,false⟩=Ci l:=rfl
       rw[hcv]at ht
       simp only[↓eB,seval,go_sem,k1,hv,Vr.r,w2]
       refine⟨⟨hjl,rfl⟩,⟨⟨rfl,.inl rfl⟩,(fun q h=>by cases h;rfl),dG _,(by decide),(by omega),(by omega)⟩,j+1,hlt2,(by omega),B4 (t:=⟨[(10,true,.one (.d (.sl ES ((Pi ⟨⟨pc,pa⟩,pf⟩).map Va.r)))),(11,true,.one (.d (.sl ES ((Ci l).map Va.r)))),(12,true,.one (.s 46)),(31,true,.one (.d (.sl zVr (xp.map Vr.r)))),(32,true,.one (.v (.int .i64 (xp.length:Int)))),(33,true,.one (.v (.int .i64 (((j+1:Nat):Int)))))],[(46,.vec 0 UF ((NA ⟨⟨pc,pa⟩,pf⟩ l xp (j+1)).map L5))]⟩) ?_ ?_⟩
       ·refine A2 [] ?_;simp only[↓eB,seval,go_sem,ht,List.map_append,List.flatMap_append]
       ·refine A2 [.mv 46 1000] ?_;simp only[↓eB,seval,go_sem]
noncomputable def Df {X:Ctx} {w0:World}:Sy.Spec Try.prog X w0:=DG 41 Try.call41 Ld (fun p:(Pg)×(List UInt8)×(List Int)×Unit=>Lc p.1 p.2.1 p.2.2.1) (fun p:(Pg)×(List UInt8)×(List Int)×Unit=>Ck p.1 p.2.1 p.2.2.1) Uv X4
def QK:List (List Va)→Int→Int
 |[],n=>n
 |c::r,n=>if decide (2000≤(c.length:Int))=true then 2000 else QK r (mn (IntKind.i64.wrap (n*(c.length:Int))) 2000)
def JT (l:List (List Va)):Int:=QK l 1
theorem dH {l:List (List Va)} {i:Nat} {x:List Va} (h:l[i]?=some x) (z:List D):(l.map JS).getD i z=[.sl ES (x.map Va.r)]:=by simp[List.getD,h,JS]
abbrev X5 (l:List (List Va)):Prop:=l.length≤1000000
abbrev F7 (l:List (List Va)):SV:=.one (.v (.int .i64 (JT l)))
noncomputable abbrev Rt:ArgC ((List (List Va))×Unit):=(acS (cCh) ac0)
abbrev gy:Prop:=Cg Try.prog 42 Rt (fun p:(List (List Va))×Unit=>X5 p.1) (fun p:(List (List Va))×Unit=>F7 p.1)
theorem gz:∀p:(List (List Va))×Unit,((fun p:(List (List Va))×Unit=>F7 p.1) p).names=[]:=by intro p;rfl
theorem qf:gy:=by
 rintro ⟨l,_u⟩ w fz xs hc hfz hl hx
 refine Bw Try.func42 rfl w fz [] [] Rt (fun p:(List (List Va))×Unit=>F7 p.1) _ xs hfz hl hx (jN rfl) ?_
 clear hx hl hfz xs
 simp only[Try.f42]
 have hc:l.length≤1000000:=hc
 simp only[↓eB,seval,go_sem]
 refine Ac (Y:=Nat×Int) (fun q=>q.1≤l.length∧JT l=QK (l.drop q.1) q.2)
  (fun q=>⟨[(3,true,.one (.v (.int .i64 q.2))),(6,true,.one (.d (.sl PX (l.map JS)))),(7,true,.one (.v (.int .i64 (l.length:Int)))),(8,true,.one (.v (.int .i64 (q.1:Int))))],[]⟩)
  (fun q=>l.length-q.1) (0,1) ⟨Nat.zero_le _,rfl⟩ ?_ ?_
 ·refine A2 [] ?_;simp only[↓eB,seval,go_sem]
 ·rintro ⟨i,n⟩ ⟨hi,hJ⟩
  dsimp only at hi hJ
  refine Aq [] [] _ _ _ ?_
  have w1:IntKind.i64.wrap ((i:Int)+1)=((i+1:Nat):Int):=by rw[wrap_i64 (by omega) (by omega)];rfl
  cases hx:l[i]? with
  |none=>
   have g2:=List.getElem?_eq_none_iff.1 hx
   have g1:=BA g2
   have hr:JT l=n:=by rw[hJ,List.drop_eq_nil_of_le g2];rfl
   simp only[↓eB,seval,go_sem,g1]
   refine A0 [] ?_;simp only[↓eB,seval,go_sem,bne,F7,hr]
  |some x=>
   have hlt:=(List.getElem?_eq_some_iff.1 hx).1
   have g1:=B9 hlt
   have hil:(i:Int)<(l.length:Int):=by omega
   have hz:=dH hx
   rw[Bn hx]at hJ
   cases hq:decide (2000≤(x.length:Int)) with
   |true=>
    have hr:JT l=2000:=by rw[hJ];exact if_pos hq
    simp only[↓eB,seval,go_sem,g1,hz,hq]
    refine⟨⟨hil,rfl⟩,?_⟩
    refine A0 [] ?_;simp only[↓eB,seval,go_sem,bne,F7,hr]
   |false=>
    have hJ2:JT l=QK (l.drop (i+1)) (mn (IntKind.i64.wrap (n*(x.length:Int))) 2000):=by rw[hJ];exact if_neg (by rw[hq];decide)
    simp only[↓eB,seval,go_sem,g1,hz,hq,w1]
    refine⟨⟨hil,rfl⟩,(i+1,mn (IntKind.i64.wrap (n*(x.length:Int))) 2000),⟨hlt,hJ2⟩,(by dsimp only;omega),?_⟩
    refine A2 [] ?_;simp only[↓eB,seval,go_sem]
noncomputable def H6 {X:Ctx} {w0:World}:Sy.Spec Try.prog X w0:=DG 42 Try.call42 Rt (fun p:(List (List Va))×Unit=>X5 p.1) (fun p:(List (List Va))×Unit=>F7 p.1) gz qf
end Go.Proofs.Ytjnnmindcbgjhaa
namespace Go.Proofs.Ytjnnmindcbgjhaa
open Go Go.Sy Go.RowKit
def pkR:List (List Va)→Int→List Va×Int
 |[],n=>([],n)
 |c::r,n=>(c.getD ((pkR r n).2.tmod (c.length:Int)).toNat va0::(pkR r n).1,(pkR r n).2.tdiv (c.length:Int))
def pkF (l:List (List Va)) (n:Int):List Va:=(pkR l n).1
theorem dJ:∀(l:List (List Va)) (n:Int),(∀x∈l,0<x.length)→0≤n→0≤(pkR l n).2∧(pkR l n).2≤n∧(pkR l n).1.length=l.length
 |[],n,_,h=>⟨h,Int.le_refl _,rfl⟩
 |c::r,n,h,h0=>by
  obtain⟨h1,h2,h3⟩:=dJ r n (fun x hx=>h x (List.mem_cons_of_mem _ hx)) h0
  have hc:=h c (List.mem_cons_self ..)
  refine⟨?_,?_,?_⟩
  ·show 0≤(pkR r n).2.tdiv _
   rw[Int.tdiv_eq_ediv_of_nonneg h1];exact Int.ediv_nonneg h1 (by omega)
  ·show (pkR r n).2.tdiv _≤n
   rw[Int.tdiv_eq_ediv_of_nonneg h1]
   have:=Int.ediv_le_self (c.length:Int) h1
   omega
  ·show ((pkR r n).1.length+1)=_
   rw[h3];rfl
theorem xr {l:List Va} {i:Nat} (h:i<l.length) (z:List D):(l.map Va.r).getD i z=(l.getD i va0).r:=by simp[List.getD,h]
theorem xu {k:Nat} {z:List C} {T:List (List C)} {r:List C}:(List.replicate (k+1) z++T).set k r=List.replicate k z++r::T:=by
 rw[List.replicate_succ',List.append_assoc,List.set_append_right _ _ (by simp),List.length_replicate,Nat.sub_self];rfl
theorem dK {k:Nat} {z d:List C} {T:List (List C)}:(List.replicate (k+1) z++T).getD k d=z:=by
 rw[List.getD_eq_getElem?_getD,List.getElem?_append_left (by simp)];simp
theorem jF (k:Nat):List.flatMap (fun r=>List.flatMap C.names r) (List.replicate k [C.v (.bool false),C.v (.int .i64 0),C.v (.string (bs []))])=[]:=List.flatMap_eq_nil_iff.2 fun p hp=>by
 rw[List.eq_of_mem_replicate hp];rfl
theorem A4A (k a b:Nat):(List.replicate k [C.v (.bool false),C.v (.int .i64 0),C.v (.string (bs []))]).map (fun r=>r.map (mvC a b))=List.replicate k [C.v (.bool false),C.v (.int .i64 0),C.v (.string (bs []))]:=by rw[List.map_replicate];rfl
abbrev UH (l:List (List Va)) (n:Int):Prop:=l.length≤5000∧(∀x∈l,0<x.length∧x.length≤1000000000)∧0≤n∧n≤1000000
abbrev GX (l:List (List Va)) (n:Int):SV:=.one (.d (.sl ES ((pkF l n).map Va.r)))
noncomputable abbrev UI:ArgC ((List (List Va))×(Int)×Unit):=(acS (cCh) (acS (cInt .i64) ac0))
abbrev qg:Prop:=Cg Try.prog 43 UI (fun p:(List (List Va))×(Int)×Unit=>UH p.1 p.2.1) (fun p:(List (List Va))×(Int)×Unit=>GX p.1 p.2.1)
theorem qh:∀p:(List (List Va))×(Int)×Unit,((fun p:(List (List Va))×(Int)×Unit=>GX p.1 p.2.1) p).names=[]:=by intro p;rfl
attribute [local go_sem] Va.c Va.r Zw Zv Ve Yw Vd
theorem xv:qg:=by
 rintro ⟨l,n,_u⟩ w fz xs hc hfz hl hx
 refine Bw Try.func43 rfl w fz [] [] UI (fun p:(List (List Va))×(Int)×Unit=>GX p.1 p.2.1) _ xs hfz hl hx (jN rfl) ?_
 clear hx hl hfz xs
 simp only[Try.f43]
 obtain⟨h1,h2,h3,h4⟩:=hc
 dsimp only at h1 h2 h3 h4
 have w0:IntKind.i64.wrap ((l.length:Int)-1)=(l.length:Int)-1:=wrap_i64 (by omega) (by omega)
 simp only[↓eB,seval,go_sem,w0]
 refine⟨⟨(by omega),(by omega)⟩,?_⟩
 refine Ac (Y:=Nat) (fun kk=>kk≤l.length)
  (fun kk=>⟨[(0,true,.one (.d (.sl PX (l.map JS)))),(1,true,.one (.v (.int .i64 (pkR (l.drop kk) n).2))),(5,true,.one (.s 1000)),(6,true,.one (.v (.int .i64 ((kk:Int)-1))))],
   [(1000,.vec 0 LV (List.replicate kk [C.v (.bool false),C.v (.int .i64 0),C.v (.string (bs []))]++(pkR (l.drop kk) n).1.map Va.c))]⟩)
  (fun kk=>kk) l.length (Nat.le_refl _) ?_ ?_
 ·refine A2 [.mv 9 1000] ?_;simp only[↓eB,seval,go_sem,LV,List.drop_length,pkR,jF,A4A]
 ·rintro kk hk
  refine Aq [] [] _ _ _ ?_
  cases kk with
  |zero=>
   have e0:decide ((0:Int)≤((0:Nat):Int)-1)=false:=by decide
   simp only[↓eB,seval,go_sem,e0,List.replicate_zero]
   refine A0 [.fz 1000] ?_;simp only[↓eB,seval,go_sem,bne,GX,pkF,LV]
  |succ k=>
   have e1:((k+1:Nat):Int)-1=(k:Int):=by omega
   have e2:decide ((0:Int)≤(k:Int))=true:=by simp
   have w4:IntKind.i64.wrap ((k:Int)-1)=(k:Int)-1:=wrap_i64 (by omega) (by omega)
   have hkl:(k:Int)<(l.length:Int):=by omega
   have hq0:l[k]?=some (l.getD k []):=by rw[List.getD,List.getElem?_eq_getElem hk];rfl
   generalize l.getD k []=x at hq0
   have hz:=dH hq0
   obtain⟨hx0,hx1⟩:=h2 x (List.mem_of_getElem? hq0)
   obtain⟨r1,r2,r3⟩:=dJ (l.drop (k+1)) n (fun y hy=>(h2 y (List.mem_of_mem_drop hy)).1) h3
   have hd:pkR (l.drop k) n=(x.getD ((pkR (l.drop (k+1)) n).2.tmod (x.length:Int)).toNat va0::(pkR (l.drop (k+1)) n).1,(pkR (l.drop (k+1)) n).2.tdiv (x.length:Int)):=by rw[Bn hq0];rfl
   generalize hT:(pkR (l.drop (k+1)) n).1=T at*
   generalize hM:(pkR (l.drop (k+1)) n).2=M at*
   have m1:0≤M.tmod (x.length:Int):=by rw[Int.tmod_eq_emod_of_nonneg r1];exact Int.emod_nonneg _ (by omega)
   have m2:M.tmod (x.length:Int)<(x.length:Int):=by rw[Int.tmod_eq_emod_of_nonneg r1];exact Int.emod_lt_of_pos _ (by omega)
   have m3:(M.tmod (x.length:Int)).toNat<x.length:=by omega
   have hvz:=xr m3
   have d1:IntKind.i64.wrap (M.tdiv (x.length:Int))=M.tdiv (x.length:Int):=by
    rw[Int.tdiv_eq_ediv_of_nonneg r1]
    have:=Int.ediv_le_self (x.length:Int) r1
    have:=Int.ediv_nonneg r1 (show (0:Int)≤(x.length:Int) by omega)
    exact wrap_i64 (by omega) (by omega)
   have hlen:k<(List.replicate (k+1) [C.v (.bool false),C.v (.int .i64 0),C.v (.string (bs []))]++T.map Va.c).length:=by simp;omega
   simp only[↓eB,seval,go_sem,e1,e2,w4,hz,hvz,d1,xu,dK]
   refine⟨⟨hkl,rfl⟩,⟨hkl,rfl⟩,(by omega),⟨m1,m2⟩,⟨(by omega),rfl⟩,⟨hlen,(by decide)⟩,Dw (by kernel_rfl),⟨hkl,rfl⟩,(by omega),k,Nat.le_of_lt hk,Nat.lt_succ_self k,?_⟩
   refine A2 [] ?_;simp only[↓eB,seval,go_sem,hd,jF,dK,List.flatMap_append]
noncomputable def Jm {X:Ctx} {w0:World}:Sy.Spec Try.prog X w0:=DG 43 Try.call43 UI (fun p:(List (List Va))×(Int)×Unit=>UH p.1 p.2.1) (fun p:(List (List Va))×(Int)×Unit=>GX p.1 p.2.1) qh xv
end Go.Proofs.Ytjnnmindcbgjhaa
