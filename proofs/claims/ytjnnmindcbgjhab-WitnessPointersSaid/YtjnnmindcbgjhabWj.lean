/- The program's tries: candidates, how many, one of them, walked. Conditions: lengths; each list has one. -/
import Derived.Test.YtjnnmindcbgjhabKp
set_option linter.unusedVariables false
set_option linter.unusedSimpArgs false
namespace Go.Proofs.Ytjnnmindcbgjhab
open Go Go.Sy Go.RowKit
def vsD1 (l:List Va):List D:=[.sl zVaD (l.map Va.r)]
def vsC1 (l:List Va):List C:=[.d (.sl zVaD (l.map Va.r))]
def zVsD:List D:=[.v (.slice none 0 0)]
def zVsC:List C:=[.v (.slice none 0 0)]
theorem vaR_inj (a b:Va) (h:a.r=b.r):a=b:=by
 obtain⟨p,n,s⟩:=a
 obtain⟨p',n',s'⟩:=b
 simp only[Va.r,dI,dS,List.cons.injEq,D.v.injEq,Value.string.injEq,Value.int.injEq,Value.bool.injEq,true_and,and_true]at h
 obtain⟨rfl,rfl,h1⟩:=h
 rw[bs_inj h1]
theorem vsD1_inj (a b:List Va) (h:vsD1 a=vsD1 b):a=b:=by
 simp only[vsD1,List.cons.injEq,D.sl.injEq,true_and,and_true]at h
 exact map_inj vaR_inj h
noncomputable def cCh:Cod (List (List Va)):=codOf (fun l=>.one (.d (.sl zVsD (l.map vsD1)))) (fun v a b h h'=>by
 cases v with
 |one c=>exact map_inj vsD1_inj (leC_d h h')
 |agg l=>exact h.elim
 |tup l=>exact h.elim) (fun l=>rfl)
theorem cCh_e (l:List (List Va)):cCh.e l= .one (.d (.sl zVsD (l.map vsD1))):=rfl
theorem cCh_d (l:List (List Va)):cCh.d (.one (.d (.sl zVsD (l.map vsD1))))=some l:=codOf_le (e:=fun l:List (List Va)=>.one (.d (.sl zVsD (l.map vsD1)))) (leV_refl _)
theorem vs1_nms (l:List (List Va)):List.flatMap (fun r=>List.flatMap C.names r) (l.map vsC1)=[]:=List.flatMap_eq_nil_iff.2 fun p hp=>by
 obtain⟨a,_,rfl⟩:=List.mem_map.1 hp
 rfl
theorem vs1_mv (k t:Nat) (l:List (List Va)):(l.map vsC1).map (fun r=>r.map (mvC k t))=l.map vsC1:=map_of vsC1 (fun _=>rfl) l
theorem vs1_dss (l:List (List Va)):toDss (l.map vsC1)=some (l.map vsD1):=toDss_of vsC1 (fun _=>rfl) l
def fnd (f:List UInt8):List Fn→Option Fn
 |[]=>none
 |g::r=>if (g.name==f)=true then some g else fnd f r
def canV (P:Pg) (l:List Int) (v:Vr):List Va:=if v.p=true then ptsF P else intsF l
def canF (P:Pg) (f:List UInt8) (l:List Int):List (List Va):=match fnd f P.fs with
 |some g=>g.ps.map (canV P l)
 |none=>[]
def canI (P:Pg) (l:List Int) (ps:List Vr) (i:Nat):List (List Va):=(ps.take i).map (canV P l)
theorem canI_0 (P:Pg) (l:List Int) (ps:List Vr):canI P l ps 0=[]:=rfl
theorem vs1_st (x:List Va):rowsStor [[C.d (.sl zVaD (x.map Va.r))]]:=by
 intro r h c hc
 rw[List.mem_singleton.1 h,List.mem_singleton]at hc
 subst hc;rfl
theorem vrA_at {l:List Vr} {i:Nat} {x:Vr} (h:l[i]?=some x) (z:List D):(l.map Vr.r).getD i z=x.r:=by simp[List.getD,h]
theorem fnA_at {l:List Fn} {i:Nat} {x:Fn} (h:l[i]?=some x) (z:List D):(l.map Fn.r).getD i z=x.r:=by simp[List.getD,h]
abbrev yc_candidates (p:Pg) (f:List UInt8) (l:List Int):Prop:=p.g.c.length≤1000000∧l.length≤1000000∧p.fs.length≤1000000∧∀g∈p.fs,g.ps.length≤5000
abbrev yr_candidates (p:Pg) (f:List UInt8) (l:List Int):SV:=.tup [.inl (.d (.sl zVsD ((canF p f l).map vsD1))),.inl (.v (.bool (fnd f p.fs).isSome))]
noncomputable abbrev ya_candidates:ArgC ((Pg)×(List UInt8)×(List Int)×Unit):=(acS (cPg) (acS (cStr) (acS (cI6) ac0)))
abbrev yq_candidates:Prop:=CallsY Try.prog 12 ya_candidates (fun p:(Pg)×(List UInt8)×(List Int)×Unit=>yc_candidates p.1 p.2.1 p.2.2.1) (fun p:(Pg)×(List UInt8)×(List Int)×Unit=>yr_candidates p.1 p.2.1 p.2.2.1)
theorem yn_candidates:∀p:(Pg)×(List UInt8)×(List Int)×Unit,((fun p:(Pg)×(List UInt8)×(List Int)×Unit=>yr_candidates p.1 p.2.1 p.2.2.1) p).names=[]:=by intro p;rfl
attribute [local go_sem] Va.c Va.r cCh_d cCh_e cI6_d cI6_e cPg_d cPg_e pgR va_dss va_mv va_nms vs1_dss vs1_mv vs1_nms vsC1 vsD1
set_option maxRecDepth 20000 in set_option maxHeartbeats 16000000 in
theorem y_candidates:yq_candidates:=by
 rintro ⟨p,f,l,_u⟩ w fz xs hc hfz hl hx
 refine calls_toL Try.func12 rfl w fz [yp_pointers,yp_integers] [] ya_candidates (fun p:(Pg)×(List UInt8)×(List Int)×Unit=>yr_candidates p.1 p.2.1 p.2.2.1) _ xs hfz hl hx (Nat.le_of_ble_eq_true rfl) ?_
 clear hx hl hfz xs
 simp only[Try.f12]
 obtain⟨h1,h2,h3,h4⟩:=hc
 obtain⟨⟨pc,pa⟩,pf⟩:=p
 dsimp only at h1 h2 h3 h4
 simp only[↓eB,seval,go_sem,yp_pointers,yp_integers]
 refine loop_ok (Y:=Nat) (fun i=>i≤pf.length∧fnd f pf=fnd f (pf.drop i))
  (fun i=>⟨[(1,true,.one (.v (.string (bs f)))),(2,true,.one (.d (.sl zIw (l.map iD)))),(3,true,.one (.p 3 0 0)),(16,true,.one (.d (.sl zFn (pf.map Fn.r)))),(17,true,.one (.v (.int .i64 (pf.length:Int)))),(18,true,.one (.v (.int .i64 (i:Int))))],
   [(3,rowP pc pa pf)]⟩)
  (fun i=>pf.length-i) 0 ⟨Nat.zero_le _,rfl⟩ ?_ ?_
 ·refine to_with [] ?_;simp only[↓eB,seval,go_sem]
 ·rintro i ⟨hi,hJ⟩
  refine vc_ok [yp_pointers,yp_integers] [] _ _ _ ?_
  have w1:IntKind.i64.wrap ((i:Int)+1)=((i+1:Nat):Int):=by rw[wrap_i64 (by omega) (by omega)];rfl
  cases hx:pf[i]? with
  |none=>
   have g2:=List.getElem?_eq_none_iff.1 hx
   have g1:=natI_ge g2
   have hn:fnd f pf=none:=by rw[hJ,List.drop_eq_nil_of_le g2];rfl
   have hr:canF ⟨⟨pc,pa⟩,pf⟩ f l=[]:=by unfold canF;dsimp only;rw[hn]
   simp only[↓eB,seval,go_sem,yp_pointers,yp_integers,g1]
   refine ret_with [] ?_;simp only[↓eB,seval,go_sem,bne,yr_candidates,hr,hn,Option.isSome_none]
  |some x=>
   have hlt:=(List.getElem?_eq_some_iff.1 hx).1
   have g1:=natI_lt hlt
   have hil:(i:Int)<(pf.length:Int):=by omega
   have hz:=fnA_at hx
   have hps:=h4 x (List.mem_of_getElem? hx)
   rw[drop_get hx]at hJ
   obtain⟨xn,xp,xl,xb⟩:=x
   dsimp only at hps
   cases hq:(xn==f) with
   |false=>
    have hJ2:fnd f pf=fnd f (pf.drop (i+1)):=by rw[hJ];exact if_neg (by rw[hq];decide)
    have hq2:(xn != f)=true:=by simp[bne,hq]
    simp only[↓eB,seval,go_sem,yp_pointers,yp_integers,g1,hz,Fn.r,hq,hq2,w1]
    refine⟨⟨hil,rfl⟩,i+1,⟨hlt,hJ2⟩,(by omega),?_⟩
    refine to_with [] ?_;simp only[↓eB,seval,go_sem]
   |true=>
    have hJ2:fnd f pf=some ⟨xn,xp,xl,xb⟩:=by rw[hJ];exact if_pos hq
    have hq2:(xn != f)=false:=by simp[bne,hq]
    simp only[↓eB,seval,go_sem,yp_pointers,yp_integers,g1,hz,Fn.r,hq,hq2]
    refine⟨⟨hil,rfl⟩,h1,h2,?_⟩
    refine loop_ok (Y:=Nat) (fun j=>j≤xp.length)
     (fun j=>⟨[(10,true,.one (.d (.sl zVaD ((ptsF ⟨⟨pc,pa⟩,pf⟩).map Va.r)))),(11,true,.one (.d (.sl zVaD ((intsF l).map Va.r)))),(12,true,.one (.s 1000)),(31,true,.one (.d (.sl zVr (xp.map Vr.r)))),(32,true,.one (.v (.int .i64 (xp.length:Int)))),(33,true,.one (.v (.int .i64 ((j:Int)))))],[(1000,.vec 0 zVsC ((canI ⟨⟨pc,pa⟩,pf⟩ l xp (j)).map vsC1))]⟩)
     (fun j=>xp.length-j) 0 (Nat.zero_le _) ?_ ?_
    ·refine to_with [.nil 12 1000 zVsC] ?_;simp only[↓eB,seval,go_sem,zVsC,canI_0,yr_pointers,yr_integers]
    ·rintro j hj
     refine vc_ok [] [] _ _ _ ?_
     have w2:IntKind.i64.wrap ((j:Int)+1)=((j+1:Nat):Int):=by rw[wrap_i64 (by omega) (by omega)];rfl
     cases hy:xp[j]? with
     |none=>
      have k2:=List.getElem?_eq_none_iff.1 hy
      have k1:=natI_ge k2
      have hr:canF ⟨⟨pc,pa⟩,pf⟩ f l=canI ⟨⟨pc,pa⟩,pf⟩ l xp j:=by
       unfold canF canI;dsimp only;rw[hJ2,List.take_of_length_le k2]
      simp only[↓eB,seval,go_sem,k1]
      refine ret_with [.fz 1000] ?_;simp only[↓eB,seval,go_sem,bne,yr_candidates,hr,hJ2,Option.isSome_some,zVsC,zVsD]
     |some v=>
      have hlt2:=(List.getElem?_eq_some_iff.1 hy).1
      have k1:=natI_lt hlt2
      have hjl:(j:Int)<(xp.length:Int):=by omega
      have hv:=vrA_at hy
      have hln:(canI ⟨⟨pc,pa⟩,pf⟩ l xp j).length=j:=by simp[canI];omega
      have ht:(canI ⟨⟨pc,pa⟩,pf⟩ l xp (j+1)).map vsC1=(canI ⟨⟨pc,pa⟩,pf⟩ l xp j).map vsC1++[[.d (.sl zVaD ((canV ⟨⟨pc,pa⟩,pf⟩ l v).map Va.r))]]:=by
       unfold canI;rw[List.take_add_one,hy];simp[vsC1]
      obtain⟨vs,vp⟩:=v
      cases vp with
      |true=>
       have hcv:canV ⟨⟨pc,pa⟩,pf⟩ l ⟨vs,true⟩=ptsF ⟨⟨pc,pa⟩,pf⟩:=rfl
       rw[hcv]at ht
       simp only[↓eB,seval,go_sem,k1,hv,Vr.r,w2]
       refine⟨⟨hjl,rfl⟩,⟨⟨rfl,.inl rfl⟩,(fun q h=>by cases h;rfl),vs1_st _,(by decide),(by omega),(by omega)⟩,j+1,hlt2,(by omega),to_trans (t:=⟨[(10,true,.one (.d (.sl zVaD ((ptsF ⟨⟨pc,pa⟩,pf⟩).map Va.r)))),(11,true,.one (.d (.sl zVaD ((intsF l).map Va.r)))),(12,true,.one (.s 42)),(31,true,.one (.d (.sl zVr (xp.map Vr.r)))),(32,true,.one (.v (.int .i64 (xp.length:Int)))),(33,true,.one (.v (.int .i64 (((j+1:Nat):Int)))))],[(42,.vec 0 zVsC ((canI ⟨⟨pc,pa⟩,pf⟩ l xp (j+1)).map vsC1))]⟩) ?_ ?_⟩
       ·refine to_with [] ?_;simp only[↓eB,seval,go_sem,ht,List.map_append,List.flatMap_append]
       ·refine to_with [.mv 42 1000] ?_;simp only[↓eB,seval,go_sem]
      |false=>
       have hcv:canV ⟨⟨pc,pa⟩,pf⟩ l ⟨vs,false⟩=intsF l:=rfl
       rw[hcv]at ht
       simp only[↓eB,seval,go_sem,k1,hv,Vr.r,w2]
       refine⟨⟨hjl,rfl⟩,⟨⟨rfl,.inl rfl⟩,(fun q h=>by cases h;rfl),vs1_st _,(by decide),(by omega),(by omega)⟩,j+1,hlt2,(by omega),to_trans (t:=⟨[(10,true,.one (.d (.sl zVaD ((ptsF ⟨⟨pc,pa⟩,pf⟩).map Va.r)))),(11,true,.one (.d (.sl zVaD ((intsF l).map Va.r)))),(12,true,.one (.s 46)),(31,true,.one (.d (.sl zVr (xp.map Vr.r)))),(32,true,.one (.v (.int .i64 (xp.length:Int)))),(33,true,.one (.v (.int .i64 (((j+1:Nat):Int)))))],[(46,.vec 0 zVsC ((canI ⟨⟨pc,pa⟩,pf⟩ l xp (j+1)).map vsC1))]⟩) ?_ ?_⟩
       ·refine to_with [] ?_;simp only[↓eB,seval,go_sem,ht,List.map_append,List.flatMap_append]
       ·refine to_with [.mv 46 1000] ?_;simp only[↓eB,seval,go_sem]
noncomputable def yp_candidates {X:Ctx} {w0:World}:Sy.Spec Try.prog X w0:=specD 12 Try.call12 ya_candidates (fun p:(Pg)×(List UInt8)×(List Int)×Unit=>yc_candidates p.1 p.2.1 p.2.2.1) (fun p:(Pg)×(List UInt8)×(List Int)×Unit=>yr_candidates p.1 p.2.1 p.2.2.1) yn_candidates y_candidates
def triL:List (List Va)→Int→Int
 |[],n=>n
 |c::r,n=>if decide (2000≤(c.length:Int))=true then 2000 else triL r (mn (IntKind.i64.wrap (n*(c.length:Int))) 2000)
def triF (l:List (List Va)):Int:=triL l 1
theorem vsA_at {l:List (List Va)} {i:Nat} {x:List Va} (h:l[i]?=some x) (z:List D):(l.map vsD1).getD i z=[.sl zVaD (x.map Va.r)]:=by simp[List.getD,h,vsD1]
abbrev yc_tries (l:List (List Va)):Prop:=l.length≤1000000
abbrev yr_tries (l:List (List Va)):SV:=.one (.v (.int .i64 (triF l)))
noncomputable abbrev ya_tries:ArgC ((List (List Va))×Unit):=(acS (cCh) ac0)
abbrev yq_tries:Prop:=CallsY Try.prog 14 ya_tries (fun p:(List (List Va))×Unit=>yc_tries p.1) (fun p:(List (List Va))×Unit=>yr_tries p.1)
theorem yn_tries:∀p:(List (List Va))×Unit,((fun p:(List (List Va))×Unit=>yr_tries p.1) p).names=[]:=by intro p;rfl
set_option maxRecDepth 20000 in set_option maxHeartbeats 8000000 in
theorem y_tries:yq_tries:=by
 rintro ⟨l,_u⟩ w fz xs hc hfz hl hx
 refine calls_toL Try.func14 rfl w fz [] [] ya_tries (fun p:(List (List Va))×Unit=>yr_tries p.1) _ xs hfz hl hx (Nat.le_of_ble_eq_true rfl) ?_
 clear hx hl hfz xs
 simp only[Try.f14]
 have hc:l.length≤1000000:=hc
 simp only[↓eB,seval,go_sem]
 refine loop_ok (Y:=Nat×Int) (fun q=>q.1≤l.length∧triF l=triL (l.drop q.1) q.2)
  (fun q=>⟨[(3,true,.one (.v (.int .i64 q.2))),(6,true,.one (.d (.sl zVsD (l.map vsD1)))),(7,true,.one (.v (.int .i64 (l.length:Int)))),(8,true,.one (.v (.int .i64 (q.1:Int))))],[]⟩)
  (fun q=>l.length-q.1) (0,1) ⟨Nat.zero_le _,rfl⟩ ?_ ?_
 ·refine to_with [] ?_;simp only[↓eB,seval,go_sem]
 ·rintro ⟨i,n⟩ ⟨hi,hJ⟩
  dsimp only at hi hJ
  refine vc_ok [] [] _ _ _ ?_
  have w1:IntKind.i64.wrap ((i:Int)+1)=((i+1:Nat):Int):=by rw[wrap_i64 (by omega) (by omega)];rfl
  cases hx:l[i]? with
  |none=>
   have g2:=List.getElem?_eq_none_iff.1 hx
   have g1:=natI_ge g2
   have hr:triF l=n:=by rw[hJ,List.drop_eq_nil_of_le g2];rfl
   simp only[↓eB,seval,go_sem,g1]
   refine ret_with [] ?_;simp only[↓eB,seval,go_sem,bne,yr_tries,hr]
  |some x=>
   have hlt:=(List.getElem?_eq_some_iff.1 hx).1
   have g1:=natI_lt hlt
   have hil:(i:Int)<(l.length:Int):=by omega
   have hz:=vsA_at hx
   rw[drop_get hx]at hJ
   cases hq:decide (2000≤(x.length:Int)) with
   |true=>
    have hr:triF l=2000:=by rw[hJ];exact if_pos hq
    simp only[↓eB,seval,go_sem,g1,hz,hq]
    refine⟨⟨hil,rfl⟩,?_⟩
    refine ret_with [] ?_;simp only[↓eB,seval,go_sem,bne,yr_tries,hr]
   |false=>
    have hJ2:triF l=triL (l.drop (i+1)) (mn (IntKind.i64.wrap (n*(x.length:Int))) 2000):=by rw[hJ];exact if_neg (by rw[hq];decide)
    simp only[↓eB,seval,go_sem,g1,hz,hq,w1]
    refine⟨⟨hil,rfl⟩,(i+1,mn (IntKind.i64.wrap (n*(x.length:Int))) 2000),⟨hlt,hJ2⟩,(by dsimp only;omega),?_⟩
    refine to_with [] ?_;simp only[↓eB,seval,go_sem]
noncomputable def yp_tries {X:Ctx} {w0:World}:Sy.Spec Try.prog X w0:=specD 14 Try.call14 ya_tries (fun p:(List (List Va))×Unit=>yc_tries p.1) (fun p:(List (List Va))×Unit=>yr_tries p.1) yn_tries y_tries
end Go.Proofs.Ytjnnmindcbgjhab
