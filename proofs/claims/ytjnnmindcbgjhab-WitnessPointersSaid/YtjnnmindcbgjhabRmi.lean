/- How a run begins: the state of its program, walked. No conditions but those in each statement. -/
import Derived.Test.YtjnnmindcbgjhabRmh
set_option linter.unusedVariables false
set_option linter.unusedSimpArgs false
namespace Go.Proofs.Ytjnnmindcbgjhab
open Go Go.Sy Go.RowKit
theorem sta_uq (v:SV) (a b:Sta) (h:leV v (.agg (stR a))) (h':leV v (.agg (stR b))):a=b:=by
 cases v with
 |one c=>exact h.elim
 |tup l=>exact h.elim
 |agg l=>
  obtain⟨c,a⟩:=a
  obtain⟨c',a'⟩:=b
  match l,h,h' with
  |[c0,c1],⟨h0,h1,_⟩,⟨g0,g1,_⟩=>
   have k0:=map_inj nbr_inj (leC_d h0 g0)
   have k1:=map_inj nar_inj (leC_d h1 g1)
   subst k0;subst k1;rfl
noncomputable def cSta:Cod Sta:=codOf (fun p=>.agg (stR p)) sta_uq (fun p=>rfl)
theorem cSta_e (p:Sta):cSta.e p= .agg (stR p):=rfl
theorem cSta_d (c:List Nb) (a:List Na):cSta.d (.agg [.d (.sl zNbD (c.map Nb.r)),.d (.sl zNaD (a.map Na.r))])=some ⟨c,a⟩:=codOf_le (e:=fun p:Sta=>.agg (stR p)) (a:=⟨c,a⟩) (leV_refl _)
theorem mSt_d0 (c:List Nb):mSt.d [.d (.sl zNbD (c.map Nb.r)),.d (.sl zNaD [])]=some ⟨c,[]⟩:=mSt_d c []
theorem nbL_rn (f:Nat→Nat) (l:List Nb):(l.map Nb.c).map (fun r=>r.map (rnC f))=l.map Nb.c:=map_of Nb.c (fun _=>rfl) l
theorem naL_rn (f:Nat→Nat) (l:List Na):(l.map Na.c).map (fun r=>r.map (rnC f))=l.map Na.c:=map_of Na.c (fun _=>rfl) l
def stN (s:List Nb) (x:Nb):Nb:=match mget (fI (s.map Nb.s)) x.s with
 |some j=>⟨x.s,(s.getD j.toNat ⟨[],0⟩).n⟩
 |none=>x
def stCs (p:List (List UInt8)) (s:List Nb):List Nb:=(blC p).map (stN s)
def stp (s:List Nb) (i:Nat) (B:List Nb):List Nb:=(B.map (stN s)).take i++B.drop i
theorem stp_z (s B:List Nb):stp s 0 B=B:=rfl
theorem stp_n (s B:List Nb) {i:Nat} (h:B.length≤i):stp s i B=B.map (stN s):=by
 unfold stp
 rw[List.take_of_length_le (by simpa using h),List.drop_eq_nil_of_le h,List.append_nil]
theorem stp_len (s B:List Nb) (i:Nat):(stp s i B).length=B.length:=by simp[stp];omega
theorem stp_tl {B:List Nb} {i:Nat} {x:Nb} (s:List Nb) (h:B[i]?=some x):((B.map (stN s)).take i).length=i:=by
 have:=(List.getElem?_eq_some_iff.1 h).1
 simp;omega
theorem stp_get {s B:List Nb} {i:Nat} {x:Nb} (h:B[i]?=some x):(stp s i B)[i]?=some x:=by
 unfold stp
 rw[List.getElem?_append_right (by rw[stp_tl s h];exact Nat.le_refl _),stp_tl s h,Nat.sub_self,drop_get h];rfl
theorem stp_set {s B:List Nb} {i:Nat} {x:Nb} (h:B[i]?=some x):(stp s i B).set i (stN s x)=stp s (i+1) B:=by
 unfold stp
 rw[List.set_append_right _ _ (by rw[stp_tl s h];exact Nat.le_refl _),stp_tl s h,Nat.sub_self,drop_get h,List.set_cons_zero,List.take_add_one,List.getElem?_map,h]
 simp
def cpL (d s:List Int):List Int:=s.take d.length++d.drop s.length
theorem cpL_len (d s:List Int):(cpL d s).length=d.length:=by simp[cpL];omega
def stNa (s:List Na) (x:Na):Na:=match mget (fI (s.map Na.s)) x.s with
 |some j=>⟨x.s,cpL x.l (s.getD j.toNat ⟨[],[]⟩).l⟩
 |none=>x
def stA (p:List Gy) (s:List Na):List Na:=(blA p).map (stNa s)
def stq (s:List Na) (i:Nat) (B:List Na):List Na:=(B.map (stNa s)).take i++B.drop i
theorem stq_z (s B:List Na):stq s 0 B=B:=rfl
theorem stq_n (s B:List Na) {i:Nat} (h:B.length≤i):stq s i B=B.map (stNa s):=by
 unfold stq
 rw[List.take_of_length_le (by simpa using h),List.drop_eq_nil_of_le h,List.append_nil]
theorem stq_len (s B:List Na) (i:Nat):(stq s i B).length=B.length:=by simp[stq];omega
theorem stq_tl {B:List Na} {i:Nat} {x:Na} (s:List Na) (h:B[i]?=some x):((B.map (stNa s)).take i).length=i:=by
 have:=(List.getElem?_eq_some_iff.1 h).1
 simp;omega
theorem stq_get {s B:List Na} {i:Nat} {x:Na} (h:B[i]?=some x):(stq s i B)[i]?=some x:=by
 unfold stq
 rw[List.getElem?_append_right (by rw[stq_tl s h];exact Nat.le_refl _),stq_tl s h,Nat.sub_self,drop_get h];rfl
theorem stq_set {s B:List Na} {i:Nat} {x:Na} (h:B[i]?=some x):(stq s i B).set i (stNa s x)=stq s (i+1) B:=by
 unfold stq
 rw[List.set_append_right _ _ (by rw[stq_tl s h];exact Nat.le_refl _),stq_tl s h,Nat.sub_self,drop_get h,List.set_cons_zero,List.take_add_one,List.getElem?_map,h]
 simp
theorem cp_rows (d s:List Int):(((s.map iD).map fun r=>r.map oD).take (d.map cI).length)++(d.map cI).drop ((s.map iD).map fun r=>r.map oD).length=(cpL d s).map cI:=by
 have e:(s.map iD).map (fun r=>r.map oD)=s.map cI:=by simp[iD,oD,cI]
 rw[e,cpL,List.map_append,List.map_take,List.map_drop]
 simp
theorem cI_st (s:List Int):rowsStor ((s.map iD).map fun r=>r.map oD):=by
 intro r h c hc
 simp only[List.map_map,List.mem_map]at h
 obtain⟨x,_,rfl⟩:=h
 simp only[Function.comp,iD,List.map_cons,List.map_nil,List.mem_singleton]at hc
 subst hc;rfl
theorem set_self {α:Type}:∀{l:List α} {i:Nat} {x:α},l[i]?=some x→l.set i x=l
 |[],_,_,h=>by simp at h
 |a::l,0,x,h=>by simp at h;simp[h]
 |a::l,i+1,x,h=>by simp at h;simp[set_self h]
theorem cI_cl (l:List Int):((l.map cI).all fun r=>r.all fun c=>c.names.isEmpty)=true:=by
 rw[List.all_eq_true]
 intro r hr
 obtain⟨a,_,rfl⟩:=List.mem_map.1 hr
 rfl
theorem cI_nm (l:List Int):List.flatMap (fun r=>List.flatMap C.names r) (l.map cI)=[]:=List.flatMap_eq_nil_iff.2 fun p hp=>by
 obtain⟨a,_,rfl⟩:=List.mem_map.1 hp
 rfl
theorem na_un {B:List Na} {k:Nat} {y:Na} (h:B[k]?=some y) (t:Nat):∃E,(B.map Na.c).set k [.v (.string (bs y.s)),.s t]=E∧(∀z,E.getD k z=[.v (.string (bs y.s)),.s t])∧E[k]?=some [.v (.string (bs y.s)),.s t]∧E.length=B.length∧
  (∀l:List Int,E.set k [.v (.string (bs y.s)),.ov zI (l.map cI)]=(B.set k ⟨y.s,l⟩).map Na.c)∧List.flatMap (fun r=>List.flatMap C.names r) E=[t]∧(B.map Na.c)[k]?=some [.v (.string (bs y.s)),.ov zI (y.l.map cI)]:=by
 have hk:=(List.getElem?_eq_some_iff.1 h).1
 have hg:((B.map Na.c).set k [.v (.string (bs y.s)),.s t])[k]?=some [.v (.string (bs y.s)),.s t]:=by rw[List.getElem?_set_self (by simpa using hk)]
 have hc:(B.map Na.c)[k]?=some [.v (.string (bs y.s)),.ov zI (y.l.map cI)]:=by rw[List.getElem?_map,h];rfl
 refine⟨_,rfl,fun z=>?_,hg,?_,?_,?_,hc⟩
 ·rw[List.getD_eq_getElem?_getD,hg];rfl
 ·simp
 ·intro l
  rw[List.set_set,List.map_set];rfl
 ·have e:B=B.take k++y::B.drop (k+1):=by
   conv=>lhs;rw[← List.take_append_drop k B,drop_get h]
  have hl:(B.take k).length=k:=by simp;omega
  have e2:(B.map Na.c).set k [.v (.string (bs y.s)),.s t]=(B.take k).map Na.c++[.v (.string (bs y.s)),.s t]::(B.drop (k+1)).map Na.c:=by
   conv=>lhs;rw[e]
   rw[List.map_append,List.set_append_right _ _ (by rw[List.length_map,hl];exact Nat.le_refl _),List.length_map,hl,Nat.sub_self]
   rfl
  rw[e2,List.flatMap_append,List.flatMap_cons,naL_nm,naL_nm]
  rfl
theorem nt_st:∀b,∀v∈ArgC.e (acS cPg (acS cSta ac0)) b,v.tupB=false:=by
 rintro ⟨p,s,_⟩ v hv
 simp only[acS_e,ac0_e,List.mem_cons,List.not_mem_nil,or_false]at hv
 rcases hv with rfl|rfl<;>rfl
theorem nba_ok (m:List ML) (l:List Nb) (k:List Na):∀q,some q∈[some (ML.vec zNb (l.map Nb.c)),some (ML.vec zNa (k.map Na.c))]→okML 2 q:=by
 intro q hq c hc
 simp only[List.mem_cons,Option.some.injEq,List.not_mem_nil,or_false]at hq
 rcases hq with rfl|rfl
 ·simp only[ML.cells,List.mem_flatMap]at hc
  obtain⟨r,hr,hc⟩:=hc
  obtain⟨a,_,rfl⟩:=List.mem_map.1 hr
  simp only[id,Nb.c,List.mem_cons,List.not_mem_nil,or_false]at hc
  rcases hc with rfl|rfl<;>exact .inl rfl
 ·simp only[ML.cells,List.mem_flatMap]at hc
  obtain⟨r,hr,hc⟩:=hc
  obtain⟨a,_,rfl⟩:=List.mem_map.1 hr
  simp only[id,Na.c,List.mem_cons,List.not_mem_nil,or_false]at hc
  rcases hc with rfl|rfl<;>exact .inl rfl
noncomputable def selSpec {P:Program} {X:Ctx} {w0:World} (sel:List SV→Bool) (a b:Sy.Spec P X w0) (hf:b.f=a.f):Sy.Spec P X w0 where
 f:=a.f
 call:=a.call
 fn t args H:=if sel args=true then a.fn t args H else b.fn t args H
 ok w I lab fz H t args xs c e fp h1 h2 h3 h4 h5 h6 h7:=by
  split at h3
  ·exact a.ok w I lab fz H t args xs c e fp h1 h2 h3 h4 h5 h6 h7
  ·rw[← hf];exact b.ok w I lab fz H t args xs c e fp h1 h2 h3 h4 h5 h6 h7
 dom t args H c e fp h1 h2 h3 h4:=by
  split at h3
  ·exact a.dom t args H c e fp h1 h2 h3 h4
  ·exact b.dom t args H c e fp h1 h2 h3 h4
 loc t args H H' c e fp h1 h2:=by
  split at h1
  ·rename_i hs;rw[if_pos hs];exact a.loc t args H H' c e fp h1 h2
  ·rename_i hs;rw[if_neg hs];exact b.loc t args H H' c e fp h1 h2
def fnSel (F:FuncId):List SV→Bool
 |[_,.one (.fn f _)]=>f==F
 |_=>false
theorem fnSel_v (F:FuncId) (v:SV) (f:FuncId) (c:List C):fnSel F [v,.one (.fn f c)]=(f==F):=rfl
section
variable {X:Ctx} {w0:World}
noncomputable def yp_Blank:Sy.Spec Try.prog X w0:=specL' 13 Try.call13 ya_Blank Cd_Bl (fun _=>false) R_Bl M_Bl (fun _=>mlO [])
 (fun p _ _=>⟨rfl,rfl,rfl,nba_ok [] _ _⟩) (fun a _ h=>by cases h) (fun a _ h=>by cases h) (fun _=>rfl) y_Blank
theorem yF_Blank:(yp_Blank (X:=X) (w0:=w0)).f=13:=rfl
theorem yN_Blank (t:Nat) (args:List SV) (H:Hp):(yp_Blank (X:=X) (w0:=w0)).fn t args H=spL X (ya_Blank.d H args) t H Cd_Bl (fun _=>false) R_Bl M_Bl (fun _=>mlO []):=rfl
theorem box_ok {r:List C} (z:List C) (h:∀c∈r,c.names=[]):∀q,some q∈[some (ML.vec z [r])]→okML 1 q:=by
 intro q hq c hc
 simp only[List.mem_cons,Option.some.injEq,List.not_mem_nil,or_false]at hq
 subst hq
 simp only[ML.cells,List.flatMap_cons,List.flatMap_nil,List.append_nil,id]at hc
 exact .inl (h c hc)
noncomputable def yp_firstS1:Sy.Spec Try.prog X w0:=specL' 31 Try.call31 (amFn 43 mSt) Cd_S1 (fun _=>false) R_S1 M_S1 (fun _=>mlO [none])
 (fun p _ _=>⟨rfl,rfl,rfl,box_ok _ (stR_nm p.2)⟩) (fun a _ h=>by cases h) (fun a _ h=>by cases h) (fun _=>rfl) y_firstS1
theorem yN_firstS1 (t:Nat) (args:List SV) (H:Hp):(yp_firstS1 (X:=X) (w0:=w0)).fn t args H=spL X ((amFn 43 mSt).d H args) t H Cd_S1 (fun _=>false) R_S1 M_S1 (fun _=>mlO [none]):=rfl
noncomputable def yp_firstS2:Sy.Spec Try.prog X w0:=specL' 31 Try.call31 (amFn 44 mSt) Cd_S2 (fun _=>false) R_S2 M_S2 (fun _=>mlO [none])
 (fun p _ _=>⟨rfl,rfl,rfl,box_ok _ (stR_nm p.2)⟩) (fun a _ h=>by cases h) (fun a _ h=>by cases h) (fun _=>rfl) y_firstS2
noncomputable def yp_firstS:Sy.Spec Try.prog X w0:=selSpec (fnSel 43) yp_firstS1 yp_firstS2 rfl
theorem yF_firstS:(yp_firstS (X:=X) (w0:=w0)).f=31:=rfl
theorem yN_firstS (t:Nat) (args:List SV) (H:Hp):(yp_firstS (X:=X) (w0:=w0)).fn t args H=if fnSel 43 args=true then (yp_firstS1 (X:=X) (w0:=w0)).fn t args H else (yp_firstS2 (X:=X) (w0:=w0)).fn t args H:=rfl
theorem yN_firstS2 (t:Nat) (args:List SV) (H:Hp):(yp_firstS2 (X:=X) (w0:=w0)).fn t args H=spL X ((amFn 44 mSt).d H args) t H Cd_S2 (fun _=>false) R_S2 M_S2 (fun _=>mlO [none]):=rfl
end
noncomputable abbrev ya_start:ArgL (Pg×Sta×Unit):=amCl (acS cPg (acS cSta ac0)) nt_st
abbrev Cd_st (p:Pg×Sta×Unit):Prop:=Cd_Bl (p.1,())∧(∀x∈p.1.g.a,1≤x.n)∧p.2.1.cs.length≤1000000∧p.2.1.ar.length≤1000000
abbrev R_st (_:Pg×Sta×Unit):SV:=.agg [.s 0,.s 1]
abbrev M_st (p:Pg×Sta×Unit):List (Option ML):=[some (.vec zNb ((stCs p.1.g.c p.2.1.cs).map Nb.c)),some (.vec zNa ((stA p.1.g.a p.2.1.ar).map Na.c))]
attribute [local go_sem] Fa.mem Fa.memO Fa.pan ML.ch ML.ren amCl_a amCl_d amCl_m amFn_a amFn_d amFn_m amFr_a amFr_d amFr_m bumpL cPg_d cPg_e cSta_d cSta_e chL clJ_eq faD_p faJ_some faK_some fa_eta fcN fnJ_v fnK_v frC frD_v frJ_eq lmH lmO mPg_d mPg_e mPg_z mSt_d mSt_d0 mSt_e mSt_z mcD_v mcR_d mlO_nil mlO_none mlO_some mpI_nil mp_get naL_nm naL_rn nbL_nm nbL_rn nmX pgR pnL_nil pnL_none pnL_some pnOL_f pnOL_t renQ renQC rnC spL_some specL'_f specL'_fn stR updL updX vrQ vsD_v
set_option maxRecDepth 20000 in
set_option maxHeartbeats 16000000 in
theorem y_start:CallsL Try.prog 35 ya_start.args ya_start.mem Cd_st (fun _=>false) R_st M_st (fun _=>mlO []):=by
 rintro ⟨⟨⟨pc,pa⟩,pf⟩,⟨sc,sa⟩,_u⟩ w M I lab fz xs ⟨hB,hg1,hs1,hs2⟩ hA hl hx
 dsimp only at hs1 hs2 hB hg1
 refine calls_toLM Try.func35 rfl [] w M I lab fz false [] (M_st (⟨⟨pc,pa⟩,pf⟩,⟨sc,sa⟩,())) [yp_Blank,yp_firstS] [(18,[.mv 17 0,.mv 600017 1])] (ya_start.args (⟨⟨pc,pa⟩,pf⟩,⟨sc,sa⟩,())) (R_st (⟨⟨pc,pa⟩,pf⟩,⟨sc,sa⟩,())) xs hA hl hx ?_ (Nat.le_of_ble_eq_true rfl) (Nat.zero_le _) rfl (by intro q hq;cases hq) ?_
 ·intro v hv k hk
  rw[(acS cPg (acS cSta ac0)).n _ v hv]at hk;cases hk
 clear hx hl hA xs
 simp only[Try.f35]
 simp only[↓eB,seval,go_sem,xt,↓e_fac4,yF_Blank,yN_Blank,yF_firstS,yN_firstS,yN_firstS1,yN_firstS2,fnSel_v]
 refine⟨hB,⟨by simp,by simpa using hs1⟩,?_⟩
 have hlb:(blC pc).length=pc.length:=by simp[blC]
 have hpl:pc.length≤1000000:=hB.1
 refine loop_ok (Y:=Nat) (fun i=>i≤(blC pc).length)
  (fun i=>⟨[(3,true,.one (.p 3 0 0)),(4,true,.one (.p 4 0 0)),(5,true,.one (.p 5 0 0)),(6,true,.one (.d (.mp (mpI (fI (sc.map Nb.s)))))),(24,true,.one (.s 17)),(25,true,.one (.v (.int .i64 ((blC pc).length:Int)))),(26,true,.one (.v (.int .i64 (i:Int))))],
   [(3,.vec 0 [.v (.bool false),.v (.bool false)] [[.d (.sl zNbD (sc.map Nb.r)),.d (.sl zNaD (sa.map Na.r))]]),(4,.vec 0 (tgN 40 2) [[.v (.slice none 0 0),.v (.slice none 0 0)]]),(5,.vec 0 (tgN 40 2) [[.s 17,.s 600017]]),(17,.vec 0 zNb ((stp sc i (blC pc)).map Nb.c)),(600017,.vec 0 zNa ((blA pa).map Na.c))]⟩)
  (fun i=>(blC pc).length-i) 0 (Nat.zero_le _) ?_ ?_
 ·refine to_with [] ?_;simp only[↓eB,seval,go_sem,xt,↓e_fac4,stp_z,R_S1,M_S1]
 ·rintro i hi
  refine vc_ok [yp_Blank,yp_firstS] [(18,[.mv 17 0,.mv 600017 1])] _ _ _ ?_
  have w1:IntKind.i64.wrap ((i:Int)+1)=((i+1:Nat):Int):=by rw[wrap_i64 (by omega) (by omega)];rfl
  cases hx:(blC pc)[i]? with
  |none=>
   have h2:=List.getElem?_eq_none_iff.1 hx
   have h1:=natI_ge h2
   simp only[↓eB,seval,go_sem,xt,↓e_fac4,yF_Blank,yN_Blank,yF_firstS,yN_firstS,yN_firstS1,yN_firstS2,fnSel_v,h1]
   rw[stp_n sc (blC pc) h2]
   have hla:(blA pa).length=pa.length:=by simp[blA]
   have hpa2:pa.length≤1000000:=hB.2.1
   refine⟨⟨by simp,by simpa using hs2⟩,?_⟩
   refine loop_ok (Y:=Nat) (fun k=>k≤(blA pa).length)
    (fun k=>⟨[(3,true,.one (.p 3 0 0)),(4,true,.one (.p 4 0 0)),(5,true,.one (.p 5 0 0)),(11,true,.one (.d (.mp (mpI (fI (sa.map Na.s)))))),(57,true,.one (.s 600017)),(58,true,.one (.v (.int .i64 ((blA pa).length:Int)))),(59,true,.one (.v (.int .i64 (k:Int))))],
   [(
    3,.vec 0 [.v (.bool false),.v (.bool false)] [[.d (.sl zNbD (sc.map Nb.r)),.d (.sl zNaD (sa.map Na.r))]]),(4,.vec 0 (tgN 40 2) [[.v (.slice none 0 0),.v (.slice none 0 0)]]),(5,.vec 0 (tgN 40 2) [[.s 17,.s 600017]]),(17,.vec 0 zNb ((stCs pc sc).map Nb.c)),(600017,.vec 0 zNa ((stq sa k (blA pa)).map Na.c))]⟩)
    (fun k=>(blA pa).length-k) 0 (Nat.zero_le _) ?_ ?_
   ·refine to_with [] ?_;simp only[↓eB,seval,go_sem,xt,↓e_fac4,R_S2,M_S2,stCs,stq_z]
   ·rintro k hk
    refine vc_ok [yp_Blank,yp_firstS] [(13,[.unr 600017 k 1 1002]),(18,[.mv 17 0,.mv 600017 1])] _ _ _ ?_
    have w2:IntKind.i64.wrap ((k:Int)+1)=((k+1:Nat):Int):=by rw[wrap_i64 (by omega) (by omega)];rfl
    cases hy:(blA pa)[k]? with
    |none=>
     have g2:=List.getElem?_eq_none_iff.1 hy
     have g1:=natI_ge g2
     simp only[↓eB,seval,go_sem,xt,↓e_fac4,yF_Blank,yN_Blank,yF_firstS,yN_firstS,yN_firstS1,yN_firstS2,fnSel_v,g1,nbL_mv,naL_mv]
     rw[stq_n sa (blA pa) g2]
     refine ret_with [] ?_;simp only[↓eB,seval,go_sem,bne,R_st,M_st,stA,e_RESLP,xt,↓e_fac4,nbL_mv,naL_mv]
    |some y=>
     have glt:=(List.getElem?_eq_some_iff.1 hy).1
     have g1:=natI_lt glt
     have hyq:=stq_get (s:=sa) hy
     have hset:=stq_set (s:=sa) hy
     have hyl:0<y.l.length:=by
      obtain⟨x,hx1,hx2⟩:=List.mem_map.1 (List.mem_of_getElem? hy)
      have:=hg1 x hx1
      rw[← hx2];simp;omega
     obtain⟨ys,yl⟩:=y
     obtain⟨E,e1,e2,e3,e4,e5,e6,e7⟩:=na_un hyq 1002
     dsimp only at e1 e2 e3 e5 e7 hyl
     have hil:(k:Int)<((blA pa).length:Int):=by omega
     have glt2:k<(stq sa k (blA pa)).length:=by rw[stq_len];exact glt
     have hil2:(k:Int)<((stq sa k (blA pa)).length:Int):=by rw[stq_len];exact hil
     cases hm:mget (fI (sa.map Na.s)) ys with
     |none=>
      have hkp:stq sa (k+1) (blA pa)=stq sa k (blA pa):=by
       rw[← hset]
       have:stNa sa ⟨ys,yl⟩=⟨ys,yl⟩:=by unfold stNa;rw[hm]
       rw[this];exact set_self hyq
      have e5':=e5 yl
      rw[set_self hyq]at e5'
      simp only[↓eB,seval,go_sem,xt,↓e_fac4,yF_Blank,yN_Blank,yF_firstS,yN_firstS,yN_firstS1,yN_firstS2,fnSel_v,g1,e1,e2,e3,e4,e7,w2,hm,Option.isSome_some,Option.isSome_none]
      simp only[zI]at e5'
      refine⟨⟨hil2,rfl⟩,glt2,k+1,glt,(by omega),to_trans (t:=⟨[(3,true,.one (.p 3 0 0)),(4,true,.one (.p 4 0 0)),(5,true,.one (.p 5 0 0)),(11,true,.one (.d (.mp (mpI (fI (sa.map Na.s)))))),(57,true,.one (.s 600017)),(58,true,.one (.v (.int .i64 ((blA pa).length:Int)))),(59,true,.one (.v (.int .i64 ((k+1:Nat):Int))))],
       [(3,.vec 0 [.v (.bool false),.v (.bool false)] [[.d (.sl zNbD (sc.map Nb.r)),.d (.sl zNaD (sa.map Na.r))]]),(4,.vec 0 (tgN 40 2) [[.v (.slice none 0 0),.v (.slice none 0 0)]]),(5,.vec 0 (tgN 40 2) [[.s 17,.s 600017]]),(17,.vec 0 zNb ((stCs pc sc).map Nb.c)),(600017,.vec 0 zNa E),(1002,.vec 0 zI (yl.map cI))]⟩) ?_ ?_⟩
      ·refine to_with [] ?_;simp only[↓eB,seval,go_sem,xt,↓e_fac4,e6,cI_nm]
      ·refine to_with [.fold 600017 k 1] ?_;simp only[↓eB,seval,go_sem,xt,↓e_fac4,e2,e3,e5',cI_cl,zI,hkp]
     |some j=>
      have hfl:=fI_lt hm
      have hjn:0≤j∧j<(sa.length:Int):=by simpa using hfl
      have hj:=nan_z hjn
      generalize hsl:(sa.getD j.toNat ⟨[],[]⟩).l=sl at*
      have hkp:(stq sa k (blA pa)).set k ⟨ys,cpL yl sl⟩=stq sa (k+1) (blA pa):=by
       rw[← hset]
       have:stNa sa ⟨ys,yl⟩=⟨ys,cpL yl sl⟩:=by unfold stNa;rw[hm];dsimp only;rw[hsl]
       rw[this]
      have e5':=e5 (cpL yl sl)
      rw[hkp]at e5'
      have hcp:=cp_rows yl sl
      have hcs:=cI_st sl
      simp only[↓eB,seval,go_sem,xt,↓e_fac4,yF_Blank,yN_Blank,yF_firstS,yN_firstS,yN_firstS1,yN_firstS2,fnSel_v,g1,e1,e2,e3,e4,e7,w2,hm,hj,Option.isSome_some,Option.isSome_none]
      simp only[zI]at e5'
      refine⟨⟨hil2,rfl⟩,glt2,⟨hil2,rfl⟩,glt2,glt2,hjn,⟨rfl,hyl,(fun q h=>by cases h;rfl),hcs⟩,chk_ok (by kernel_rfl),k+1,glt,(by omega),to_trans (t:=⟨[(3,true,.one (.p 3 0 0)),(4,true,.one (.p 4 0 0)),(5,true,.one (.p 5 0 0)),(11,true,.one (.d (.mp (mpI (fI (sa.map Na.s)))))),(57,true,.one (.s 600017)),(58,true,.one (.v (.int .i64 ((blA pa).length:Int)))),(59,true,.one (.v (.int .i64 ((k+1:Nat):Int))))],
       [(3,.vec 0 [.v (.bool false),.v (.bool false)] [[.d (.sl zNbD (sc.map Nb.r)),.d (.sl zNaD (sa.map Na.r))]]),(4,.vec 0 (tgN 40 2) [[.v (.slice none 0 0),.v (.slice none 0 0)]]),(5,.vec 0 (tgN 40 2) [[.s 17,.s 600017]]),(17,.vec 0 zNb ((stCs pc sc).map Nb.c)),(600017,.vec 0 zNa E),(1002,.vec 1 zI ((cpL yl sl).map cI))]⟩) ?_ ?_⟩
      ·simp only[List.length_map]at hcp
       refine to_with [] ?_;simp only[↓eB,seval,go_sem,xt,↓e_fac4,e6,cI_nm,hcp]
      ·refine to_with [.fold 600017 k 1] ?_;simp only[↓eB,seval,go_sem,xt,↓e_fac4,e2,e3,e5',cI_cl,zI]
  |some x=>
   have hlt:=(List.getElem?_eq_some_iff.1 hx).1
   have h1:=natI_lt hlt
   have hg:=stp_get (s:=sc) hx
   obtain⟨xs,xn⟩:=x
   have hs:∀z,((stp sc i (blC pc)).map Nb.c).getD i z=[.v (.string (bs xs)),.v (.int .i64 xn)]:=by intro z;simp[List.getD,hg,Nb.c]
   cases hm:mget (fI (sc.map Nb.s)) xs with
   |none=>
    simp only[↓eB,seval,go_sem,xt,↓e_fac4,yF_Blank,yN_Blank,yF_firstS,yN_firstS,yN_firstS1,yN_firstS2,fnSel_v,h1,hs,hm,w1,Option.isSome_some,Option.isSome_none]
    have hil:(i:Int)<((stp sc i (blC pc)).length:Int):=by rw[stp_len];omega
    have hkp:stp sc (i+1) (blC pc)=stp sc i (blC pc):=by
     rw[← stp_set hx]
     have:stN sc ⟨xs,xn⟩=⟨xs,xn⟩:=by unfold stN;rw[hm]
     rw[this];exact set_self hg
    refine⟨⟨hil,rfl⟩,(by omega),i+1,hlt,(by omega),?_⟩
    refine to_with [] ?_;simp only[↓eB,seval,go_sem,xt,↓e_fac4,hkp]
   |some j=>
    have hfl:=fI_lt hm
    have hjn:0≤j∧j<(sc.length:Int):=by simpa using hfl
    have hj:=nbn_z hjn
    simp only[↓eB,seval,go_sem,xt,↓e_fac4,yF_Blank,yN_Blank,yF_firstS,yN_firstS,yN_firstS1,yN_firstS2,fnSel_v,h1,hs,hm,hj,w1,Option.isSome_some,Option.isSome_none]
    have hil:(i:Int)<((stp sc i (blC pc)).length:Int):=by rw[stp_len];omega
    have hxl:i<(stp sc i (blC pc)).length:=by omega
    have hkp:((stp sc i (blC pc)).map Nb.c).set i [.v (.string (bs xs)),.v (.int .i64 (sc.getD j.toNat ⟨[],0⟩).n)]=(stp sc (i+1) (blC pc)).map Nb.c:=by
     rw[← stp_set hx]
     have:stN sc ⟨xs,xn⟩=⟨xs,(sc.getD j.toNat ⟨[],0⟩).n⟩:=by unfold stN;rw[hm]
     rw[this,List.map_set];rfl
    refine⟨⟨hil,rfl⟩,hxl,hjn,⟨hil,rfl⟩,hxl,⟨hxl,(by decide)⟩,chk_ok (by kernel_rfl),i+1,hlt,(by omega),?_⟩
    refine to_with [] ?_;simp only[↓eB,seval,go_sem,xt,↓e_fac4,hkp]
end Go.Proofs.Ytjnnmindcbgjhab
