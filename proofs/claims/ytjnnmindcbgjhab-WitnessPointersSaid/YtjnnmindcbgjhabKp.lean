/- The chapter's example of runs; programs of one function, walked. Conditions: those of the texts. -/
import Derived.Test.YtjnnmindcbgjhabPgm
import Derived.Test.YtjnnmindcbgjhabRmn
set_option linter.unusedVariables false
set_option linter.unusedSimpArgs false
namespace Go.Proofs.Ytjnnmindcbgjhab
open Go Go.Sy Go.RowKit
abbrev u8R (n:Int):Prop:=0≤n∧n≤255
def OkSb (n:Nat) (s:Sm):Bool:=decide (s.e.dp<n)&&decide (s.f.dp<n)&&decide (s.cd.dp<n)&&s.ar.all (fun a=>decide (a.e.dp<n))&&decide (s.ar.length≤5000)
theorem OkSb_ok {n:Nat} {s:Sm} (h:OkSb n s=true):OkS n s:=by
 simp only[OkSb,Bool.and_eq_true,decide_eq_true_eq,List.all_eq_true]at h
 exact⟨h.1.1.1.1,h.1.1.1.2,h.1.1.2,h.1.2,h.2⟩
def okBb (n:Nat):Nat→List Sm→Bool
 |0,_=>false
 |m+1,l=>decide (l.length≤5000)&&l.all fun s=>OkSb n s&&okBb n m s.th&&okBb n m s.el
theorem okBb_ok {n:Nat}:∀{m:Nat} {l:List Sm},okBb n m l=true→okB n m l
 |0,l,h=>by cases h
 |m+1,l,h=>by
  simp only[okBb,Bool.and_eq_true,decide_eq_true_eq,List.all_eq_true]at h
  exact⟨h.1,fun s hs=>⟨OkSb_ok (h.2 s hs).1.1,okBb_ok (h.2 s hs).1.2,okBb_ok (h.2 s hs).2⟩⟩
def okFb (f:Fn):Bool:=decide (f.ps.length≤5000)&&decide (f.ls.length≤5000)
theorem okFb_ok {f:Fn} (h:okFb f=true):okF f:=by
 simp only[okFb,Bool.and_eq_true,decide_eq_true_eq]at h;exact h
def okPb (N M:Nat) (P:Pg):Bool:=decide (P.fs.length≤1000000)&&P.fs.all fun f=>okFb f&&okBb N M f.body
theorem okPb_ok {N M:Nat} {P:Pg} (h:okPb N M P=true):okPg N P:=by
 simp only[okPb,Bool.and_eq_true,decide_eq_true_eq,List.all_eq_true]at h
 exact⟨h.1,fun f hf=>⟨okFb_ok (h.2 f hf).1,M,okBb_ok (h.2 f hf).2⟩⟩
theorem okUn_f {n m:Nat} {gl:List UInt8→List Gi} {s t:List UInt8} (h1:(s==gloB)=false) (h2:smallB t) (h3:(okFb (funF t).1&&okBb n m (funF t).1.body)=true):okUn n m gl ⟨s,t⟩:=by
 simp only[Bool.and_eq_true]at h3
 exact⟨fun h=>(by rw[h1]at h;cases h),fun _=>h2,fun _=>okFb_ok h3.1,fun _=>okBb_ok h3.2⟩
theorem okUn_g {n m:Nat} {gl:List UInt8→List Gi} {t:List UInt8} (h1:glO t (gl t)) (h2:onceL (giV (gl t)).ns) (h3:(giV (gl t)).c.length≤5000) (h4:(giV (gl t)).a.length≤5000):okUn n m gl ⟨gloB,t⟩:=by
 have hb:(gloB==gloB)=true:=by decide
 exact⟨fun _=>⟨h1,h2,h3,h4⟩,fun h=>(by rw[hb]at h;cases h),fun h=>(by rw[hb]at h;cases h),fun h=>(by rw[hb]at h;cases h)⟩
theorem once_nd {l:List (List UInt8)} (h:l.Nodup):onceL l:=by
 intro i j hj hi
 have hjl:j<l.length:=by omega
 simp only[List.getD,List.getElem?_eq_getElem hi,List.getElem?_eq_getElem hjl,Option.getD_some]
 have:=List.pairwise_iff_getElem.1 h j i hjl hi hj
 simpa using this
theorem mUn_dr (s t:List UInt8):mUn.d [.v (.string (bs s)),.v (.string (bs t))]=some ⟨s,t⟩:=rowMOf_d unc_inj ⟨s,t⟩
def kgl:List UInt8→List Gi:=fun _=>[.c [99]]
theorem iA_at {l:List Int} {i:Nat} {x:Int} (h:l[i]?=some x) (z:List D):(l.map iD).getD i z=[.v (.int .i64 x)]:=by simp[List.getD,h,iD]
abbrev rowP (pc:List (List UInt8)) (pa:List Gy) (pf:List Fn):Ch:=.vec 0 [.v (.bool false),.v (.bool false),.v (.bool false)] [[.d (.sl zSqD (pc.map cSd)),.d (.sl zGyD (pa.map Gy.r)),.d (.sl zFn (pf.map Fn.r))]]
abbrev zT44:List C:=tgN 40 2
end Go.Proofs.Ytjnnmindcbgjhab
namespace Go.Proofs.Ytjnnmindcbgjhab
open Go Go.Sy Go.RowKit
def zVac:List C:=[.v (.bool false),.v (.int .i64 0),.v (.string (bs []))]
theorem va_nms (l:List Va):List.flatMap (fun r=>List.flatMap C.names r) (l.map Va.c)=[]:=List.flatMap_eq_nil_iff.2 fun p hp=>by
 obtain⟨a,_,rfl⟩:=List.mem_map.1 hp
 rfl
theorem va_mv (k t:Nat) (l:List Va):(l.map Va.c).map (fun r=>r.map (mvC k t))=l.map Va.c:=map_of Va.c (fun _=>rfl) l
theorem va_dss (l:List Va):toDss (l.map Va.c)=some (l.map Va.r):=toDss_of Va.c (fun _=>rfl) l
noncomputable def cI6:Cod (List Int):=codOf (fun l=>.one (.d (.sl zIw (l.map iD)))) (fun v a b h h'=>by
 cases v with
 |one c=>exact map_inj iD_inj (leC_d h h')
 |agg l=>exact h.elim
 |tup l=>exact h.elim) (fun l=>rfl)
theorem cI6_e (l:List Int):cI6.e l= .one (.d (.sl zIw (l.map iD))):=rfl
theorem cI6_d (l:List Int):cI6.d (.one (.d (.sl zIw (l.map iD))))=some l:=codOf_le (e:=fun l:List Int=>.one (.d (.sl zIw (l.map iD)))) (leV_refl _)
theorem cI6_d1 (x:Int):cI6.d (.one (.d (.sl [.v (.int .i64 0)] [[.v (.int .i64 x)]])))=some [x]:=cI6_d [x]
theorem cI6_d2 (x y:Int):cI6.d (.one (.d (.sl [.v (.int .i64 0)] [[.v (.int .i64 x)],[.v (.int .i64 y)]])))=some [x,y]:=cI6_d [x,y]
def ptsF (P:Pg):List Va:=⟨true,0,[]⟩::P.g.c.map fun c=>⟨true,0,c⟩
def intsF (l:List Int):List Va:=if (l.length:Int)==0 then [⟨false,0,[]⟩] else l.map fun n=>⟨false,n,[]⟩
def ptsI (pc:List (List UInt8)) (i:Nat):List Va:=⟨true,0,[]⟩::(pc.take i).map fun c=>⟨true,0,c⟩
def intsI (l:List Int) (i:Nat):List Va:=(l.take i).map fun n=>⟨false,n,[]⟩
theorem ptsI_0 (pc:List (List UInt8)):ptsI pc 0=[⟨true,0,[]⟩]:=rfl
theorem intsI_0 (l:List Int):intsI l 0=[]:=rfl
theorem va_st (p:Bool) (n:Int) (s:List UInt8):rowsStor [[C.v (.bool p),C.v (.int .i64 n),C.v (.string (bs s))]]:=by
 intro r h c hc
 rw[List.mem_singleton.1 h]at hc
 simp only[List.mem_cons,List.not_mem_nil,or_false]at hc
 rcases hc with rfl|rfl|rfl<;>rfl
abbrev yc_pointers (p:Pg):Prop:=p.g.c.length≤1000000
abbrev yr_pointers (p:Pg):SV:=.one (.d (.sl zVaD ((ptsF p).map Va.r)))
noncomputable abbrev ya_pointers:ArgC ((Pg)×Unit):=(acS (cPg) ac0)
abbrev yq_pointers:Prop:=CallsY Try.prog 29 ya_pointers (fun p:(Pg)×Unit=>yc_pointers p.1) (fun p:(Pg)×Unit=>yr_pointers p.1)
theorem yn_pointers:∀p:(Pg)×Unit,((fun p:(Pg)×Unit=>yr_pointers p.1) p).names=[]:=by intro p;rfl
attribute [local go_sem] Va.c Va.r cI6_d cI6_e cPg_d cPg_e pgR va_dss va_mv va_nms
set_option maxRecDepth 20000 in set_option maxHeartbeats 8000000 in
theorem y_pointers:yq_pointers:=by
 rintro ⟨p,_u⟩ w fz xs hc hfz hl hx
 refine calls_toL Try.func29 rfl w fz [] [] ya_pointers (fun p:(Pg)×Unit=>yr_pointers p.1) _ xs hfz hl hx (Nat.le_of_ble_eq_true rfl) ?_
 clear hx hl hfz xs
 simp only[Try.f29]
 obtain⟨⟨pc,pa⟩,pf⟩:=p
 have hc:pc.length≤1000000:=hc
 simp only[↓eB,seval,go_sem]
 refine loop_ok (Y:=Nat) (fun i=>i≤pc.length)
  (fun i=>⟨[(3,true,.one (.s 1000)),(10,true,.one (.d (.sl zSqD (pc.map cSd)))),(11,true,.one (.v (.int .i64 (pc.length:Int)))),(12,true,.one (.v (.int .i64 (i:Int))))],
   [(1000,.vec 0 zVac ((ptsI pc i).map Va.c))]⟩)
  (fun i=>pc.length-i) 0 (Nat.zero_le _) ?_ ?_
 ·refine to_with [.mv 7 1000] ?_;simp only[↓eB,seval,go_sem,zVac,ptsI_0]
 ·rintro i hi
  refine vc_ok [] [] _ _ _ ?_
  have w1:IntKind.i64.wrap ((i:Int)+1)=((i+1:Nat):Int):=by rw[wrap_i64 (by omega) (by omega)];rfl
  cases hx:pc[i]? with
  |none=>
   have g2:=List.getElem?_eq_none_iff.1 hx
   have g1:=natI_ge g2
   have hr:ptsF ⟨⟨pc,pa⟩,pf⟩=ptsI pc i:=by unfold ptsI;rw[List.take_of_length_le g2];rfl
   simp only[↓eB,seval,go_sem,g1]
   refine ret_with [.fz 1000] ?_;simp only[↓eB,seval,go_sem,bne,yr_pointers,hr,zVac]
  |some x=>
   have hlt:=(List.getElem?_eq_some_iff.1 hx).1
   have g1:=natI_lt hlt
   have hil:(i:Int)<(pc.length:Int):=by omega
   have hs:(pc.map cSd).getD i zSqD=cSd x:=by simp[List.getD,hx]
   have hln:(ptsI pc i).length=i+1:=by simp[ptsI];omega
   have ht:(ptsI pc (i+1)).map Va.c=(ptsI pc i).map Va.c++[[.v (.bool true),.v (.int .i64 0),.v (.string (bs x))]]:=by
    unfold ptsI;rw[List.take_add_one,hx];simp[Va.c]
   simp only[↓eB,seval,go_sem,g1,hs,cSd,w1]
   refine⟨⟨hil,rfl⟩,⟨⟨rfl,.inl rfl⟩,(fun q h=>by cases h;rfl),va_st _ _ _,(by decide),(by omega),(by omega)⟩,i+1,hlt,(by omega),to_trans (t:=⟨[(3,true,.one (.s 20)),(10,true,.one (.d (.sl zSqD (pc.map cSd)))),(11,true,.one (.v (.int .i64 (pc.length:Int)))),(12,true,.one (.v (.int .i64 ((i+1:Nat):Int))))],
    [(20,.vec 0 zVac ((ptsI pc (i+1)).map Va.c))]⟩) ?_ ?_⟩
   ·rw[ht]
    refine to_with [] ?_;simp only[↓eB,seval,go_sem,List.map_append,List.flatMap_append]
   ·refine to_with [.mv 20 1000] ?_;simp only[↓eB,seval,go_sem]
noncomputable def yp_pointers {X:Ctx} {w0:World}:Sy.Spec Try.prog X w0:=specD 29 Try.call29 ya_pointers (fun p:(Pg)×Unit=>yc_pointers p.1) (fun p:(Pg)×Unit=>yr_pointers p.1) yn_pointers y_pointers
abbrev yc_integers (l:List Int):Prop:=l.length≤1000000
abbrev yr_integers (l:List Int):SV:=.one (.d (.sl zVaD ((intsF l).map Va.r)))
noncomputable abbrev ya_integers:ArgC ((List Int)×Unit):=(acS (cI6) ac0)
abbrev yq_integers:Prop:=CallsY Try.prog 30 ya_integers (fun p:(List Int)×Unit=>yc_integers p.1) (fun p:(List Int)×Unit=>yr_integers p.1)
theorem yn_integers:∀p:(List Int)×Unit,((fun p:(List Int)×Unit=>yr_integers p.1) p).names=[]:=by intro p;rfl
set_option maxRecDepth 20000 in set_option maxHeartbeats 8000000 in
theorem y_integers:yq_integers:=by
 rintro ⟨l,_u⟩ w fz xs hc hfz hl hx
 refine calls_toL Try.func30 rfl w fz [] [] ya_integers (fun p:(List Int)×Unit=>yr_integers p.1) _ xs hfz hl hx (Nat.le_of_ble_eq_true rfl) ?_
 clear hx hl hfz xs
 simp only[Try.f30]
 have hc:l.length≤1000000:=hc
 cases h0:((l.length:Int)==0) with
 |true=>
  have hr:intsF l=[⟨false,0,[]⟩]:=if_pos h0
  simp only[↓eB,seval,go_sem,h0]
  refine ret_with [.fz 10] ?_;simp only[↓eB,seval,go_sem,bne,yr_integers,hr]
 |false=>
 have hr0:intsF l=l.map fun n=>⟨false,n,[]⟩:=if_neg (by rw[h0];decide)
 simp only[↓eB,seval,go_sem,h0]
 refine loop_ok (Y:=Nat) (fun i=>i≤l.length)
  (fun i=>⟨[(3,true,.one (.s 1000)),(11,true,.one (.d (.sl zIw (l.map iD)))),(12,true,.one (.v (.int .i64 (l.length:Int)))),(13,true,.one (.v (.int .i64 (i:Int))))],
   [(1000,.vec 0 zVac ((intsI l i).map Va.c))]⟩)
  (fun i=>l.length-i) 0 (Nat.zero_le _) ?_ ?_
 ·refine to_with [.nil 3 1000 zVac] ?_;simp only[↓eB,seval,go_sem,zVac,intsI_0]
 ·rintro i hi
  refine vc_ok [] [] _ _ _ ?_
  have w1:IntKind.i64.wrap ((i:Int)+1)=((i+1:Nat):Int):=by rw[wrap_i64 (by omega) (by omega)];rfl
  cases hx:l[i]? with
  |none=>
   have g2:=List.getElem?_eq_none_iff.1 hx
   have g1:=natI_ge g2
   have hr:intsF l=intsI l i:=by unfold intsI;rw[hr0,List.take_of_length_le g2]
   simp only[↓eB,seval,go_sem,g1]
   refine ret_with [.fz 1000] ?_;simp only[↓eB,seval,go_sem,bne,yr_integers,hr,zVac]
  |some x=>
   have hlt:=(List.getElem?_eq_some_iff.1 hx).1
   have g1:=natI_lt hlt
   have hil:(i:Int)<(l.length:Int):=by omega
   have hs:=iA_at hx
   have hln:(intsI l i).length=i:=by simp[intsI];omega
   have ht:((intsI l (i+1))).map Va.c=(intsI l i).map Va.c++[[.v (.bool false),.v (.int .i64 x),.v (.string (bs []))]]:=by
    unfold intsI;rw[List.take_add_one,hx];simp[Va.c]
   simp only[↓eB,seval,go_sem,g1,hs,w1]
   refine⟨hil,⟨⟨rfl,.inl rfl⟩,(fun q h=>by cases h;rfl),va_st _ _ _,(by decide),(by omega),(by omega)⟩,i+1,hlt,(by omega),to_trans (t:=⟨[(3,true,.one (.s 21)),(11,true,.one (.d (.sl zIw (l.map iD)))),(12,true,.one (.v (.int .i64 (l.length:Int)))),(13,true,.one (.v (.int .i64 ((i+1:Nat):Int))))],
    [(21,.vec 0 zVac ((intsI l (i+1)).map Va.c))]⟩) ?_ ?_⟩
   ·rw[ht]
    refine to_with [] ?_;simp only[↓eB,seval,go_sem,List.map_append,List.flatMap_append]
   ·refine to_with [.mv 21 1000] ?_;simp only[↓eB,seval,go_sem]
noncomputable def yp_integers {X:Ctx} {w0:World}:Sy.Spec Try.prog X w0:=specD 30 Try.call30 ya_integers (fun p:(List Int)×Unit=>yc_integers p.1) (fun p:(List Int)×Unit=>yr_integers p.1) yn_integers y_integers
end Go.Proofs.Ytjnnmindcbgjhab
