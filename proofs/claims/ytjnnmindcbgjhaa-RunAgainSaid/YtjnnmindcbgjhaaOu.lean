/- Light states; states and outcomes held against themselves, walked. Conditions: lengths; both are the same. -/
import Derived.Test.YtjnnmindcbgjhaaRmn
set_option linter.unusedVariables false
set_option linter.unusedSimpArgs false
namespace Go.Proofs.Ytjnnmindcbgjhaa
open Go Go.Sy Go.RowKit
structure Ou where
 e:Int
 v:Int
 f:List UInt8
 al:Int
 k:Int
 s:Sta
def Ou.c (x:Ou):List C:=[.v (.int .i64 x.e),.v (.int .i64 x.v),.v (.string (bs x.f)),.v (.int .i64 x.al),.v (.int .i64 x.k),.d (.sl zNbD (x.s.cs.map Nb.r)),.d (.sl zNaD (x.s.ar.map Na.r))]
theorem ou_uq (v:SV) (a b:Ou) (h:leV v (.agg a.c)) (h':leV v (.agg b.c)):a=b:=by
 cases v with
 |one c=>exact h.elim
 |tup l=>exact h.elim
 |agg l=>
  obtain⟨e,v,f,al,k,cs,ar⟩:=a
  obtain⟨e',v',f',al',k',cs',ar'⟩:=b
  match l,h,h' with
  |[c0,c1,c2,c3,c4,c5,c6],⟨h0,h1,h2,h3,h4,h5,h6,_⟩,⟨g0,g1,g2,g3,g4,g5,g6,_⟩=>
   have e0:=leC_v h0 g0
   have e1:=leC_v h1 g1
   have e2:=leC_v h2 g2
   have e3:=leC_v h3 g3
   have e4:=leC_v h4 g4
   simp only[Value.string.injEq,Value.int.injEq,true_and]at e0 e1 e2 e3 e4
   have k2:=bs_inj e2
   have k5:=map_inj nbr_inj (leC_d h5 g5)
   have k6:=map_inj nar_inj (leC_d h6 g6)
   subst e0;subst e1;subst k2;subst e3;subst e4;subst k5;subst k6;rfl
noncomputable def cOu:Cod Ou:=codOf (fun x=>.agg x.c) ou_uq (fun x=>rfl)
theorem cOu_e (x:Ou):cOu.e x= .agg x.c:=rfl
theorem cOu_d (e v al k:Int) (f:List UInt8) (cs:List Nb) (ar:List Na):cOu.d (.agg [.v (.int .i64 e),.v (.int .i64 v),.v (.string (bs f)),.v (.int .i64 al),.v (.int .i64 k),.d (.sl zNbD (cs.map Nb.r)),.d (.sl zNaD (ar.map Na.r))])=some ⟨e,v,f,al,k,⟨cs,ar⟩⟩:=codOf_le (e:=fun x:Ou=>.agg x.c) (a:=⟨e,v,f,al,k,⟨cs,ar⟩⟩) (leV_refl _)
def lsB (s:Sta):Bool:=!decide (5<(s.cs.length:Int))&&!decide (5<(s.ar.length:Int))&&s.ar.all fun x=>!decide (12<(x.l.length:Int))
theorem nbA_at {l:List Nb} {i:Nat} {x:Nb} (h:l[i]?=some x) (z:List D):(l.map Nb.r).getD i z=x.r:=by simp[List.getD,h]
theorem naA_at {l:List Na} {i:Nat} {x:Na} (h:l[i]?=some x) (z:List D):(l.map Na.r).getD i z=x.r:=by simp[List.getD,h]
theorem iA_at {l:List Int} {i:Nat} {x:Int} (h:l[i]?=some x) (z:List D):(l.map iD).getD i z=[.v (.int .i64 x)]:=by simp[List.getD,h,iD]
abbrev yc_lightS (s:Sta):Prop:=True
abbrev yr_lightS (s:Sta):SV:=.one (.v (.bool (lsB s)))
noncomputable abbrev ya_lightS:ArgC ((Sta)×Unit):=(acS (cSta) ac0)
abbrev yq_lightS:Prop:=CallsY Try.prog 19 ya_lightS (fun p:(Sta)×Unit=>yc_lightS p.1) (fun p:(Sta)×Unit=>yr_lightS p.1)
theorem yn_lightS:∀p:(Sta)×Unit,((fun p:(Sta)×Unit=>yr_lightS p.1) p).names=[]:=by intro p;rfl
attribute [local go_sem] Na.r Nb.r Ou.c cOu_d cOu_e cSta_d cSta_e stR
set_option maxRecDepth 20000 in set_option maxHeartbeats 8000000 in
theorem y_lightS:yq_lightS:=by
 rintro ⟨s,_u⟩ w fz xs hc hfz hl hx
 refine calls_toL Try.func19 rfl w fz [] [] ya_lightS (fun p:(Sta)×Unit=>yr_lightS p.1) _ xs hfz hl hx (Nat.le_of_ble_eq_true rfl) ?_
 clear hx hl hfz xs
 simp only[Try.f19]
 obtain⟨sc,sa⟩:=s
 cases h1:decide (5<(sc.length:Int)) with
 |true=>
  have hr:lsB ⟨sc,sa⟩=false:=by unfold lsB;dsimp only;rw[h1];rfl
  cases h2:decide (5<(sa.length:Int))<;>
  (
   simp only[↓eB,seval,go_sem,iD,h1,h2]
   refine ret_with [] ?_;simp only[↓eB,seval,go_sem,bne,yr_lightS,hr])
 |false=>
 cases h2:decide (5<(sa.length:Int)) with
 |true=>
  have hr:lsB ⟨sc,sa⟩=false:=by unfold lsB;dsimp only;rw[h1,h2];rfl
  simp only[↓eB,seval,go_sem,iD,h1,h2]
  refine ret_with [] ?_;simp only[↓eB,seval,go_sem,bne,yr_lightS,hr]
 |false=>
  have hl:sa.length≤5:=by have:=of_decide_eq_false h2;omega
  have hr:lsB ⟨sc,sa⟩=sa.all fun x=>!decide (12<(x.l.length:Int)):=by unfold lsB;dsimp only;rw[h1,h2];rfl
  simp only[↓eB,seval,go_sem,iD,h1,h2]
  refine loop_ok (Y:=Nat) (fun i=>i≤sa.length∧lsB ⟨sc,sa⟩=(sa.drop i).all fun x=>!decide (12<(x.l.length:Int)))
   (fun i=>⟨[(1,true,.one (.p 1 0 0)),(3,true,.one (.v (.int .i64 (i:Int))))],[(1,.vec 0 [.v (.bool false),.v (.bool false)] [[.d (.sl zNbD (sc.map Nb.r)),.d (.sl zNaD (sa.map Na.r))]])]⟩)
   (fun i=>sa.length-i) 0 ⟨Nat.zero_le _,hr⟩ ?_ ?_
  ·refine to_with [] ?_;simp only[↓eB,seval,go_sem,iD]
  ·rintro i ⟨hi,hJ⟩
   refine vc_ok [] [] _ _ _ ?_
   have w1:IntKind.i64.wrap ((i:Int)+1)=((i+1:Nat):Int):=by rw[wrap_i64 (by omega) (by omega)];rfl
   cases hx:sa[i]? with
   |none=>
    have g2:=List.getElem?_eq_none_iff.1 hx
    have g1:=natI_ge g2
    have hr2:lsB ⟨sc,sa⟩=true:=by rw[hJ,List.drop_eq_nil_of_le g2];rfl
    simp only[↓eB,seval,go_sem,iD,g1]
    refine ret_with [] ?_;simp only[↓eB,seval,go_sem,bne,yr_lightS,hr2]
   |some x=>
    have hlt:=(List.getElem?_eq_some_iff.1 hx).1
    have g1:=natI_lt hlt
    have hil:(i:Int)<(sa.length:Int):=by omega
    have hz:=naA_at hx
    rw[drop_get hx,List.all_cons]at hJ
    obtain⟨xs,xl⟩:=x
    dsimp only at hJ
    cases h3:decide (12<(xl.length:Int)) with
    |true=>
     have hr2:lsB ⟨sc,sa⟩=false:=by rw[hJ,h3];rfl
     simp only[↓eB,seval,go_sem,iD,g1,hz,h3]
     refine⟨hil,?_⟩
     refine ret_with [] ?_;simp only[↓eB,seval,go_sem,bne,yr_lightS,hr2]
    |false=>
     rw[h3]at hJ
     simp only[↓eB,seval,go_sem,iD,g1,hz,h3,w1]
     refine⟨hil,i+1,⟨hlt,hJ⟩,(by omega),?_⟩
     refine to_with [] ?_;simp only[↓eB,seval,go_sem,iD]
noncomputable def yp_lightS {X:Ctx} {w0:World}:Sy.Spec Try.prog X w0:=specD 19 Try.call19 ya_lightS (fun p:(Sta)×Unit=>yc_lightS p.1) (fun p:(Sta)×Unit=>yr_lightS p.1) yn_lightS y_lightS
abbrev yc_hState (a:Sta) (b:Sta):Prop:=a=b∧a.cs.length≤1000000∧a.ar.length≤1000000∧∀x∈a.ar,x.l.length≤1000000000
abbrev yr_hState (a:Sta) (b:Sta):SV:=.one (.v (.bool true))
noncomputable abbrev ya_hState:ArgC ((Sta)×(Sta)×Unit):=(acS (cSta) (acS (cSta) ac0))
abbrev yq_hState:Prop:=CallsY Try.prog 21 ya_hState (fun p:(Sta)×(Sta)×Unit=>yc_hState p.1 p.2.1) (fun p:(Sta)×(Sta)×Unit=>yr_hState p.1 p.2.1)
theorem yn_hState:∀p:(Sta)×(Sta)×Unit,((fun p:(Sta)×(Sta)×Unit=>yr_hState p.1 p.2.1) p).names=[]:=by intro p;rfl
set_option maxRecDepth 20000 in set_option maxHeartbeats 8000000 in
theorem y_hState:yq_hState:=by
 rintro ⟨a,b,_u⟩ w fz xs hc hfz hl hx
 refine calls_toL Try.func21 rfl w fz [] [] ya_hState (fun p:(Sta)×(Sta)×Unit=>yr_hState p.1 p.2.1) _ xs hfz hl hx (Nat.le_of_ble_eq_true rfl) ?_
 clear hx hl hfz xs
 simp only[Try.f21]
 dsimp only at hc
 obtain⟨h0,h1,h2,h3⟩:=hc
 subst h0
 obtain⟨sc,sa⟩:=a
 dsimp only at h1 h2 h3
 simp only[↓eB,seval,go_sem,iD,bne_self_eq_false,beq_self_eq_true]
 refine loop_ok (Y:=Nat) (fun i=>i≤sc.length)
  (fun i=>⟨[(2,true,.one (.p 2 0 0)),(3,true,.one (.p 3 0 0)),(5,true,.one (.v (.int .i64 (i:Int))))],[(2,.vec 0 [.v (.bool false),.v (.bool false)] [[.d (.sl zNbD (sc.map Nb.r)),.d (.sl zNaD (sa.map Na.r))]]),(3,.vec 0 [.v (.bool false),.v (.bool false)] [[.d (.sl zNbD (sc.map Nb.r)),.d (.sl zNaD (sa.map Na.r))]])]⟩)
  (fun i=>sc.length-i) 0 (Nat.zero_le _) ?_ ?_
 ·refine to_with [] ?_;simp only[↓eB,seval,go_sem,iD]
 ·rintro i hi
  refine vc_ok [] [] _ _ _ ?_
  have w1:IntKind.i64.wrap ((i:Int)+1)=((i+1:Nat):Int):=by rw[wrap_i64 (by omega) (by omega)];rfl
  cases hx:sc[i]? with
  |some x=>
   have hlt:=(List.getElem?_eq_some_iff.1 hx).1
   have g1:=natI_lt hlt
   have hil:(i:Int)<(sc.length:Int):=by omega
   have hz:=nbA_at hx
   simp only[↓eB,seval,go_sem,iD,g1,hz,w1,bne_self_eq_false,beq_self_eq_true]
   refine⟨hil,hil,chk_ok (by kernel_rfl),i+1,hlt,(by omega),?_⟩
   refine to_with [] ?_;simp only[↓eB,seval,go_sem,iD]
  |none=>
   have g2:=List.getElem?_eq_none_iff.1 hx
   have g1:=natI_ge g2
   simp only[↓eB,seval,go_sem,iD,g1]
   refine loop_ok (Y:=Nat) (fun i=>i≤sa.length)
    (fun i=>⟨[(2,true,.one (.p 2 0 0)),(3,true,.one (.p 3 0 0)),(6,true,.one (.v (.int .i64 (i:Int))))],[(2,.vec 0 [.v (.bool false),.v (.bool false)] [[.d (.sl zNbD (sc.map Nb.r)),.d (.sl zNaD (sa.map Na.r))]]),(3,.vec 0 [.v (.bool false),.v (.bool false)] [[.d (.sl zNbD (sc.map Nb.r)),.d (.sl zNaD (sa.map Na.r))]])]⟩)
    (fun i=>sa.length-i) 0 (Nat.zero_le _) ?_ ?_
   ·refine to_with [] ?_;simp only[↓eB,seval,go_sem,iD]
   ·rintro j hj
    refine vc_ok [] [] _ _ _ ?_
    have w2:IntKind.i64.wrap ((j:Int)+1)=((j+1:Nat):Int):=by rw[wrap_i64 (by omega) (by omega)];rfl
    cases hy:sa[j]? with
    |none=>
     have k2:=List.getElem?_eq_none_iff.1 hy
     have k1:=natI_ge k2
     simp only[↓eB,seval,go_sem,iD,k1]
     refine ret_with [] ?_;simp only[↓eB,seval,go_sem,bne,yr_hState]
    |some y=>
     have hlt:=(List.getElem?_eq_some_iff.1 hy).1
     have k1:=natI_lt hlt
     have hjl:(j:Int)<(sa.length:Int):=by omega
     have hz:=naA_at hy
     have hyl:=h3 y (List.mem_of_getElem? hy)
     obtain⟨ys,yl⟩:=y
     dsimp only at hyl
     simp only[↓eB,seval,go_sem,iD,k1,hz,bne_self_eq_false,beq_self_eq_true]
     refine⟨hjl,hjl,hjl,hjl,chk_ok (by kernel_rfl),?_⟩
     refine loop_ok (Y:=Nat) (fun k=>k≤yl.length)
      (fun k=>⟨[(2,true,.one (.p 2 0 0)),(3,true,.one (.p 3 0 0)),(6,true,.one (.v (.int .i64 (j:Int)))),(7,true,.one (.v (.int .i64 (k:Int))))],[(2,.vec 0 [.v (.bool false),.v (.bool false)] [[.d (.sl zNbD (sc.map Nb.r)),.d (.sl zNaD (sa.map Na.r))]]),(3,.vec 0 [.v (.bool false),.v (.bool false)] [[.d (.sl zNbD (sc.map Nb.r)),.d (.sl zNaD (sa.map Na.r))]])]⟩)
      (fun k=>yl.length-k) 0 (Nat.zero_le _) ?_ ?_
     ·refine to_with [] ?_;simp only[↓eB,seval,go_sem,iD]
     ·rintro k hk
      refine vc_ok [] [] _ _ _ ?_
      have w3:IntKind.i64.wrap ((k:Int)+1)=((k+1:Nat):Int):=by rw[wrap_i64 (by omega) (by omega)];rfl
      cases hq:yl[k]? with
      |none=>
       have q2:=List.getElem?_eq_none_iff.1 hq
       have q1:=natI_ge q2
       simp only[↓eB,seval,go_sem,iD,hz,q1,w2]
       refine⟨hjl,j+1,hlt,(by omega),?_⟩
       refine to_with [] ?_;simp only[↓eB,seval,go_sem,iD]
      |some q=>
       have hqlt:=(List.getElem?_eq_some_iff.1 hq).1
       have q1:=natI_lt hqlt
       have hkl:(k:Int)<(yl.length:Int):=by omega
       have hzq:=iA_at hq
       simp only[↓eB,seval,go_sem,iD,hz,hzq,q1,w3,bne_self_eq_false]
       refine⟨hjl,hjl,hkl,hjl,hkl,chk_ok (by kernel_rfl),k+1,hqlt,(by omega),?_⟩
       refine to_with [] ?_;simp only[↓eB,seval,go_sem,iD]
noncomputable def yp_hState {X:Ctx} {w0:World}:Sy.Spec Try.prog X w0:=specD 21 Try.call21 ya_hState (fun p:(Sta)×(Sta)×Unit=>yc_hState p.1 p.2.1) (fun p:(Sta)×(Sta)×Unit=>yr_hState p.1 p.2.1) yn_hState y_hState
abbrev yc_Outcome (a:Ou) (b:Ou):Prop:=a=b∧a.s.cs.length≤1000000∧a.s.ar.length≤1000000∧∀x∈a.s.ar,x.l.length≤1000000000
abbrev yr_Outcome (a:Ou) (b:Ou):SV:=.one (.v (.bool true))
noncomputable abbrev ya_Outcome:ArgC ((Ou)×(Ou)×Unit):=(acS (cOu) (acS (cOu) ac0))
abbrev yq_Outcome:Prop:=CallsY Try.prog 18 ya_Outcome (fun p:(Ou)×(Ou)×Unit=>yc_Outcome p.1 p.2.1) (fun p:(Ou)×(Ou)×Unit=>yr_Outcome p.1 p.2.1)
theorem yn_Outcome:∀p:(Ou)×(Ou)×Unit,((fun p:(Ou)×(Ou)×Unit=>yr_Outcome p.1 p.2.1) p).names=[]:=by intro p;rfl
set_option maxRecDepth 20000 in set_option maxHeartbeats 8000000 in
theorem y_Outcome:yq_Outcome:=by
 rintro ⟨a,b,_u⟩ w fz xs hc hfz hl hx
 refine calls_toL Try.func18 rfl w fz [yp_hState] [] ya_Outcome (fun p:(Ou)×(Ou)×Unit=>yr_Outcome p.1 p.2.1) _ xs hfz hl hx (Nat.le_of_ble_eq_true rfl) ?_
 clear hx hl hfz xs
 simp only[Try.f18]
 dsimp only at hc
 obtain⟨h0,h1,h2,h3⟩:=hc
 subst h0
 obtain⟨e,v,f,al,k,sc,sa⟩:=a
 dsimp only at h1 h2 h3
 simp only[↓eB,seval,go_sem,yp_hState,iD,bne_self_eq_false,beq_self_eq_true]
 refine⟨⟨rfl,h1,h2,h3⟩,?_⟩
 refine ret_with [] ?_;simp only[↓eB,seval,go_sem,bne,yr_Outcome,yr_hState]
noncomputable def yp_Outcome {X:Ctx} {w0:World}:Sy.Spec Try.prog X w0:=specD 18 Try.call18 ya_Outcome (fun p:(Ou)×(Ou)×Unit=>yc_Outcome p.1 p.2.1) (fun p:(Ou)×(Ou)×Unit=>yr_Outcome p.1 p.2.1) yn_Outcome y_Outcome
end Go.Proofs.Ytjnnmindcbgjhaa
