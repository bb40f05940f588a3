/- What the resolver asks for, plain. No conditions but those in each statement. -/
import Derived.Test.YtlaggppdgoknjaaGreatDoorSo
import Derived.Test.YtlaggppdgoknjaaGreatDoorAt
import Derived.Test.YtlaggppdgoknjaaGreatDoorCm1
set_option linter.unusedVariables false
set_option linter.unusedSimpArgs false
namespace Go.Proofs.YtlaggppdgoknjaaGreatDoor
open Go Go.Sy Go.RowKit
theorem OkS.mono {n n':Nat} {s:Sm} (h:OkS n s) (hn:n≤n'):OkS n' s:=
 ⟨Nat.lt_of_lt_of_le h.e hn,Nat.lt_of_lt_of_le h.f hn,Nat.lt_of_lt_of_le h.c hn,fun a ha=>Nat.lt_of_lt_of_le (h.a a ha) hn,h.l⟩
theorem okB_mono {n n':Nat} (hn:n≤n'):∀{m m':Nat} {l:List Sm},okB n m l→m≤m'→okB n' m' l
 |0,_,_,h,_=>h.elim
 |m+1,0,_,_,hm=>absurd hm (by omega)
 |m+1,m'+1,l,h,hm=>⟨h.1,fun s hs=>by
   obtain⟨h1,h2,h3⟩:=h.2 s hs
   exact⟨h1.mono hn,okB_mono hn h2 (by omega),okB_mono hn h3 (by omega)⟩⟩
def GoodS (s:Sm):Prop:=∃n m,OkS n s∧okB n m s.th∧okB n m s.el
theorem ex_arg:∀l:List Ar,∃n,∀a∈l,a.e.dp<n
 |[]=>⟨0,fun a h=>by cases h⟩
 |b::l=>by
  obtain⟨n,h⟩:=ex_arg l
  refine⟨max n (b.e.dp+1),fun a ha=>?_⟩
  rcases List.mem_cons.1 ha with rfl|ha
  ·exact Nat.lt_of_lt_of_le (Nat.lt_succ_self _) (Nat.le_max_right _ _)
  ·exact Nat.lt_of_lt_of_le (h a ha) (Nat.le_max_left _ _)
theorem good_list:∀l:List Sm,(∀s∈l,GoodS s)→∃n m,∀s∈l,OkS n s∧okB n m s.th∧okB n m s.el
 |[],_=>⟨0,0,fun s h=>by cases h⟩
 |t::l,h=>by
  obtain⟨n,m,h1⟩:=good_list l fun s hs=>h s (List.mem_cons_of_mem _ hs)
  obtain⟨n',m',a,b,c⟩:=h t (List.mem_cons_self ..)
  refine⟨max n n',max m m',fun s hs=>?_⟩
  rcases List.mem_cons.1 hs with rfl|hs
  ·exact⟨a.mono (Nat.le_max_right _ _),okB_mono (Nat.le_max_right _ _) b (Nat.le_max_right _ _),okB_mono (Nat.le_max_right _ _) c (Nat.le_max_right _ _)⟩
  ·obtain⟨a,b,c⟩:=h1 s hs
   exact⟨a.mono (Nat.le_max_left _ _),okB_mono (Nat.le_max_left _ _) b (Nat.le_max_left _ _),okB_mono (Nat.le_max_left _ _) c (Nat.le_max_left _ _)⟩
theorem good_body {l:List Sm} (h:∀s∈l,GoodS s) (hl:l.length≤5000):∃n m,okB n m l:=by
 obtain⟨n,m,h1⟩:=good_list l h
 exact⟨n,m+1,hl,h1⟩
theorem good_mk (k:Int) (x y:List UInt8) (e g:Ex) (cd:Cd) (ar:List Ar) (th el:List Sm) (no:Int) (ha:ar.length≤5000) (ht:th.length≤5000) (he:el.length≤5000) (h1:∀s∈th,GoodS s) (h2:∀s∈el,GoodS s):GoodS (.mk k x y e g cd ar th el no):=by
 obtain⟨n1,m1,b1⟩:=good_body h1 ht
 obtain⟨n2,m2,b2⟩:=good_body h2 he
 obtain⟨n3,b3⟩:=ex_arg ar
 refine⟨n1+n2+n3+e.dp+g.dp+cd.dp+1,m1+m2,⟨?_,?_,?_,fun a h=>?_,ha⟩,okB_mono (by omega) b1 (by omega),okB_mono (by omega) b2 (by omega)⟩
 ·show e.dp<_;omega
 ·show g.dp<_;omega
 ·show cd.dp<_;omega
 ·have:=b3 a h;omega
theorem stmtsL_good {st:Pr→R Sm} (hu:∀p,okP p→Nx p (st p).2) (hg:∀p,okP p→GoodS (st p).1):∀(k:Nat) (l:List Sm) (p:Pr),okP p→(∀s∈l,GoodS s)→(∀s∈(stmtsL st k l p).1,GoodS s)∧(stmtsL st k l p).1.length≤l.length+k
 |0,l,p,h,hl=>⟨hl,Nat.le_refl _⟩
 |k+1,l,p,h,hl=>by
  simp only[stmtsL]
  split
  ·split
   ·exact⟨hl,by simp only;omega⟩
   split
   ·exact⟨fun s hs=>(by cases hs),Nat.zero_le _⟩
   ·have h1:=stmtsL_good hu hg k (l++[(st p).1]) (st p).2 (hu p h).ok (fun s hs=>by
     rcases List.mem_append.1 hs with hs|hs
     ·exact hl s hs
     ·rw[List.mem_singleton.1 hs];exact hg p h)
    refine⟨h1.1,?_⟩
    have h2:=h1.2
    simp only[List.length_append,List.length_cons,List.length_nil]at h2
    omega
  ·exact⟨hl,by simp only;omega⟩
theorem stmtsW_good {st:Pr→R Sm} (hu:∀p,okP p→Nx p (st p).2) (hg:∀p,okP p→GoodS (st p).1) {p:Pr} (h:okP p):(∀s∈(stmtsW st p).1,GoodS s)∧(stmtsW st p).1.length≤5000:=by
 have h1:=stmtsL_good hu hg (p.l.length+1) [] p h (fun s hs=>by cases hs)
 have h2:=h.2.2.1
 refine⟨h1.1,?_⟩
 have h3:=h1.2
 simp only[List.length_nil]at h3
 show (stmtsL st (p.l.length+1) [] p).1.length≤5000
 omega
theorem argL_len:∀(k:Nat) (l:List Ar) (p:Pr),(argL k l p).1.length≤l.length+k
 |0,l,p=>by simp[argL]
 |k+1,l,p=>by
  simp only[argL]
  split
  ·split
   ·simp only[List.length_append,List.length_cons,List.length_nil];omega
   ·have h2:=argL_len k (l++[⟨false,[],(exS p).1⟩]) (wanP [44] (exS p).2)
    simp only[List.length_append,List.length_cons,List.length_nil]at h2
    omega
  ·simp
theorem argW_len {p:Pr} (h:okP p):(argW p).1.length≤5000:=by
 unfold argW
 split
 ·simp
 ·have h1:=argL_len (p.l.length+1) [] p
  have h2:=h.2.2.1
  simp only[List.length_nil]at h1
  omega
theorem blkW_good {st:Pr→R Sm} (hu:∀p,okP p→Nx p (st p).2) (hg:∀p,okP p→GoodS (st p).1) {p:Pr} (h:okP p):(∀s∈(blkW st p).1,GoodS s)∧(blkW st p).1.length≤5000:=by
 unfold blkW
 split
 ·rename_i hi
  split
  ·rename_i hb
   have h1:=opn_adv h hb (isT_e hi).2
   exact stmtsW_good hu hg h1.ok
  ·exact⟨fun s hs=>(by cases hs),Nat.zero_le _⟩
 ·exact⟨fun s hs=>(by cases hs),Nat.zero_le _⟩
theorem ifB_good {st:Pr→R Sm} (hu:∀p,okP p→Nx p (st p).2) (hg:∀p,okP p→GoodS (st p).1) {p:Pr} {t:List UInt8} (h:okP p) (hi:isT t p=true):(∀s∈(ifB (blkW st) p).1,GoodS s)∧(ifB (blkW st) p).1.length≤5000:=by
 have h1:=ifC_nx h hi
 exact blkW_good hu hg (wan_nx (t:=[41]) h1.ok).ok
theorem good_flat (k:Int) (x y:List UInt8) (e g:Ex) (cd:Cd) (ar:List Ar) (no:Int) (ha:ar.length≤5000):GoodS (.mk k x y e g cd ar [] [] no):=
 good_mk k x y e g cd ar [] [] no ha (Nat.zero_le _) (Nat.zero_le _) (fun s hs=>by cases hs) (fun s hs=>by cases hs)
theorem val_len {p:Pr} (h:okP p):((valF p).1.a.getD []).length≤5000:=by
 unfold valF
 split
 ·exact Nat.zero_le _
 split
 ·exact Nat.zero_le _
 split
 ·exact Nat.zero_le _
 split
 ·exact Nat.zero_le _
 split
 ·rename_i hb
  exact argW_len (ahB_nx h hb).ok
 ·exact Nat.zero_le _
theorem stmB_good {st:Pr→R Sm} (hu:∀p,okP p→Nx p (st p).2) (hg:∀p,okP p→GoodS (st p).1) (no:Int) {p:Pr} (h:okP p):GoodS (stmB st no p).1:=by
 unfold stmB
 split
 ·exact good_flat _ _ _ _ _ _ [] _ (Nat.zero_le _)
 split
 ·exact good_flat _ _ _ _ _ _ [] _ (Nat.zero_le _)
 split
 ·rename_i hi
  have h1:=ifB_good hu hg h hi
  exact good_mk _ _ _ _ _ _ [] _ [] _ (Nat.zero_le _) h1.2 (Nat.zero_le _) h1.1 (fun s hs=>by cases hs)
 split
 ·rename_i hi
  have h1:=ifB_good hu hg h hi
  split
  ·rename_i he
   have h2:=ifB_nx hu h hi
   have h3:=blkW_good hu hg (isT_adv h2.ok he).ok
   exact good_mk _ _ _ _ _ _ [] _ _ _ (Nat.zero_le _) h1.2 h3.2 h1.1 h3.1
  ·exact good_mk _ _ _ _ _ _ [] _ [] _ (Nat.zero_le _) h1.2 (Nat.zero_le _) h1.1 (fun s hs=>by cases hs)
 split
 ·exact good_flat _ _ _ _ _ _ [] _ (Nat.zero_le _)
 split
 ·rename_i hi
  exact good_flat _ _ _ _ _ _ _ _ (argW_len (isT_adv (nam_nx h).ok hi).ok)
 split
 ·exact good_flat _ _ _ _ _ _ [] _ (Nat.zero_le _)
 ·exact good_flat _ _ _ _ _ _ _ _ (val_len (wan_nx (t:=[61]) (nam_nx h).ok).ok)
theorem stmF_good:∀(f:Nat) (p:Pr),okP p→GoodS (stmF f p).1
 |0,p,h=>good_flat _ _ _ _ _ _ [] _ (Nat.zero_le _)
 |f+1,p,h=>by
  simp only[stmF]
  split
  ·exact good_flat _ _ _ _ _ _ [] _ (Nat.zero_le _)
  ·exact stmB_good (stm_nx f) (stmF_good f) _ (nxt_nx h).ok
theorem parL_len:∀(k:Nat) (l:List Vr) (p:Pr),(parL k l p).1.length≤l.length+k
 |0,l,p=>Nat.le_refl _
 |k+1,l,p=>by
  have h1:=morL_len l (isT [42] p) 6 (takP [42] p)
  simp only[parL]
  split
  ·split
   ·simp only;omega
   ·have h2:=parL_len k (morL l (isT [42] p) 6 (takP [42] p)) (wanP [44] (morP l 6 (takP [42] p)))
    omega
  ·simp only;omega
theorem locL_len:∀(k:Nat) (l:List Vr) (p:Pr),(locL k l p).1.length≤l.length+k
 |0,l,p=>Nat.le_refl _
 |k+1,l,p=>by
  have h1:=morL_len l (isT tPtr p) 20 (adv p)
  simp only[locL]
  split
  ·have h2:=locL_len k (morL l (isT tPtr p) 20 (adv p)) (wanP [59] (morP l 20 (adv p)))
   omega
  ·simp only;omega
theorem parW_len {p:Pr} (h:okP p):(parW p).1.length≤5000:=by
 unfold parW
 split
 ·exact Nat.zero_le _
 ·have h1:=parL_len (p.l.length+1) [] p
  have h2:=h.2.2.1
  simp only[List.length_nil]at h1
  omega
theorem locW_len {p:Pr} (h:okP p):(locW p).1.length≤5000:=by
 have h1:=locL_len p.l.length [] p
 have h2:=h.2.2.1
 simp only[List.length_nil]at h1
 show (locL p.l.length [] p).1.length≤5000
 omega
theorem ope_okG {p:Pr} (h:okP p):okP (opeP p):=by
 unfold opeP
 split
 ·rename_i hi
  split
  ·rename_i hb
   exact(opn_adv h hb (isT_e hi).2).ok
  ·rename_i hb
   exact(fail_nx 51 (opn_no h (by simpa using hb)).ok).ok
 ·exact(fail_nx 51 h).ok
theorem funF_good (s:List UInt8):okF (funF s).1∧∃n m,okB n m (funF s).1.body:=by
 have hz:okF fn0∧∃n m,okB n m fn0.body:=⟨⟨Nat.zero_le _,Nat.zero_le _⟩,0,1,Nat.zero_le _,fun s hs=>by cases hs⟩
 unfold funF
 split
 ·exact hz
 split
 ·exact hz
 ·have h3:=(hd2_nx s (s.length:Int)).ok
  have h4:okP (opeP (fp3 (rxT s).1 (s.length:Int)).2):=ope_okG (parW_nx h3).ok
  have h5:okP (fp4 (rxT s).1 (s.length:Int)).2:=(locL_nx _ _ _ h4).ok
  have h6:=stmtsW_good (stm_nx 41) (stmF_good 41) h5
  exact⟨⟨parW_len h3,locW_len h4⟩,good_body h6.1 h6.2⟩
end Go.Proofs.YtlaggppdgoknjaaGreatDoor
namespace Go.Proofs.YtlaggppdgoknjaaGreatDoor
open Go Go.Sy Go.RowKit
theorem pzVr_ln:zVr.length=2:=rfl
theorem vrD_at {l:List Vr} {i:Nat} {s:List UInt8} {p:Bool} (h:l[i]?=some ⟨s,p⟩) (z:List D):(l.map Vr.r).getD i z=[dS s,.v (.bool p)]:=by simp[List.getD,h,Vr.r]
noncomputable def cVs:Cod (List Vr):=codOf (fun l=>.one (.d (.sl zVr (l.map Vr.r)))) (fun v a b h h'=>by
 cases v with
 |one c=>exact map_inj vr_inj (leC_d h h')
 |agg l=>exact h.elim
 |tup l=>exact h.elim) (fun l=>rfl)
theorem cVs_e (l:List Vr):cVs.e l= .one (.d (.sl zVr (l.map Vr.r))):=rfl
theorem cVs_d (l:List Vr):cVs.d (.one (.d (.sl zVr (l.map Vr.r))))=some l:=codOf_le (e:=fun l:List Vr=>.one (.d (.sl zVr (l.map Vr.r)))) (leV_refl _)
abbrev yc_eqV (a:List Vr) (b:List Vr):Prop:=a=b∧a.length≤1000000
abbrev yr_eqV (a:List Vr) (b:List Vr):SV:=.one (.v (.bool true))
noncomputable abbrev ya_eqV:ArgC ((List Vr)×(List Vr)×Unit):=(acS (cVs) (acS (cVs) ac0))
abbrev yq_eqV:Prop:=CallsY Tryz.prog 25 ya_eqV (fun p:(List Vr)×(List Vr)×Unit=>yc_eqV p.1 p.2.1) (fun p:(List Vr)×(List Vr)×Unit=>yr_eqV p.1 p.2.1)
theorem yn_eqV:∀p:(List Vr)×(List Vr)×Unit,((fun p:(List Vr)×(List Vr)×Unit=>yr_eqV p.1 p.2.1) p).names=[]:=by intro p;first|rfl|exact ex_names _|exact cd_names _
noncomputable def yg_eqV {X:Ctx} {w0:World} (h:yq_eqV):Sy.Spec Tryz.prog X w0:=specD 25 Tryz.call25 ya_eqV (fun p:(List Vr)×(List Vr)×Unit=>yc_eqV p.1 p.2.1) (fun p:(List Vr)×(List Vr)×Unit=>yr_eqV p.1 p.2.1) (yn_eqV) h
attribute [local go_sem] Fn.c cFn_d cFn_e cSs_d cSs_e cVs_d cVs_e pairN_o pairO_n pzVr_ln spFn_n yg_eqB yg_eqV
set_option maxRecDepth 20000 in set_option maxHeartbeats 8000000 in
theorem y_eqV:yq_eqV:=by
 rintro ⟨a,b,_u⟩ w fz xs hc hfz hl hx
 refine calls_toL Tryz.func25 rfl w fz [] [] ya_eqV (fun p:(List Vr)×(List Vr)×Unit=>yr_eqV p.1 p.2.1) _ xs hfz hl hx (Nat.le_of_ble_eq_true rfl) ?_
 clear hx hl hfz xs
 simp only[Tryz.f25]
 obtain⟨hc1,hc2⟩:=hc
 dsimp only at hc1 hc2
 subst hc1
 simp only[↓eB,seval,go_sem,bne_self_eq_false]
 refine loop_ok (Y:=Nat) (fun i=>i≤a.length)
  (fun i=>⟨[(0,true,.one (.d (.sl zVr (a.map Vr.r)))),(1,true,.one (.d (.sl zVr (a.map Vr.r)))),(5,true,.one (.v (.int .i64 (i:Int))))],[]⟩)
  (fun i=>a.length-i) 0 (Nat.zero_le _) ?_ ?_
 ·refine to_with [] ?_;simp only[↓eB,seval,go_sem]
 ·intro i hi
  refine vc_ok [] [] _ _ _ ?_
  cases hx:a[i]? with
  |none=>
   have b1:=natI_ge (List.getElem?_eq_none_iff.1 hx)
   simp only[↓eB,seval,go_sem,bne_self_eq_false,b1]
   try simp only[impB,impN]
   repeat' first|exact ck|with_reducible apply And.intro|intro _
   all_goals first|exact trivial|(rename_i h;first|exact oI h|exact nah h)|(rename_i _ h _ g;exact sL h g)|decide|omega|(refine ret_with [] ?_;simp only[↓eB,seval,go_sem,bne,yr_eqV])
  |some s=>
   have hil:i<a.length:=(List.getElem?_eq_some_iff.1 hx).1
   have b1:=natI_lt hil
   have b2:=natI_ltp hil
   obtain⟨s,p⟩:=s
   have b3:=vrD_at hx
   have b4:=natI_succ (n:=a.length) hi (by omega)
   simp only[↓eB,seval,go_sem,bne_self_eq_false,b1,b2,b3,b4,beq_self_eq_true]
   try simp only[impB,impN]
   repeat' first|exact ck|with_reducible apply And.intro|intro _
   all_goals try first|exact hil|exact rfl|(rename_i h;first|exact oI h|exact nah h)|(rename_i _ h _ g;exact sL h g)|decide|omega
   refine⟨i+1,hil,by omega,to_with [] ?_⟩
   simp only[↓eB,seval,go_sem]
abbrev yc_eqF (n:Nat) (m:Nat) (a:Fn) (b:Fn):Prop:=a=b∧okB n m a.body∧a.ps.length≤1000000∧a.ls.length≤1000000
abbrev yr_eqF (n:Nat) (m:Nat) (a:Fn) (b:Fn):SV:=.one (.v (.bool true))
noncomputable abbrev ya_eqF:ArgC ((Fn)×(Fn)×Unit):=(acS (cFn) (acS (cFn) ac0))
abbrev yq_eqF (n:Nat) (m:Nat):Prop:=CallsY Tryz.prog 10 ya_eqF (fun p:(Fn)×(Fn)×Unit=>yc_eqF n m p.1 p.2.1) (fun p:(Fn)×(Fn)×Unit=>yr_eqF n m p.1 p.2.1)
theorem yn_eqF (n:Nat) (m:Nat):∀p:(Fn)×(Fn)×Unit,((fun p:(Fn)×(Fn)×Unit=>yr_eqF n m p.1 p.2.1) p).names=[]:=by intro p;first|rfl|exact ex_names _|exact cd_names _
noncomputable def yg_eqF {X:Ctx} {w0:World} (n:Nat) (m:Nat) (h:yq_eqF n m):Sy.Spec Tryz.prog X w0:=specD 10 Tryz.call10 ya_eqF (fun p:(Fn)×(Fn)×Unit=>yc_eqF n m p.1 p.2.1) (fun p:(Fn)×(Fn)×Unit=>yr_eqF n m p.1 p.2.1) (yn_eqF n m) h
set_option maxRecDepth 20000 in set_option maxHeartbeats 8000000 in
theorem y_eqF (n:Nat) (m:Nat):yq_eqF n m:=by
 rintro ⟨a,b,_u⟩ w fz xs hc hfz hl hx
 refine calls_toL Tryz.func10 rfl w fz [(yg_eqV y_eqV),(yg_eqB n m (y_eqB n m))] [] ya_eqF (fun p:(Fn)×(Fn)×Unit=>yr_eqF n m p.1 p.2.1) _ xs hfz hl hx (Nat.le_of_ble_eq_true rfl) ?_
 clear hx hl hfz xs
 simp only[Tryz.f10]
 obtain⟨hc1,hc2,hc3,hc4⟩:=hc
 dsimp only at hc1 hc2 hc3 hc4
 subst hc1
 obtain⟨nm,ps,ls,bd⟩:=a
 simp only[↓eB,seval,go_sem,bne_self_eq_false,beq_self_eq_true]
 try simp only[impB,impN]
 repeat' first|exact ck|with_reducible apply And.intro|intro _
 all_goals first|exact hc2|exact hc3|exact hc4|exact rfl|(rename_i h;first|exact oI h|exact nah h)|(rename_i _ h _ g;exact sL h g)|decide|omega|(refine ret_with [] ?_;simp only[↓eB,seval,go_sem,bne,yr_eqF])
noncomputable def gN (s:List UInt8):Nat:=(funF_good s).2.choose
noncomputable def gM (s:List UInt8):Nat:=(funF_good s).2.choose_spec.choose
theorem gB (s:List UInt8):okB (gN s) (gM s) (funF s).1.body:=(funF_good s).2.choose_spec.choose_spec
end Go.Proofs.YtlaggppdgoknjaaGreatDoor
