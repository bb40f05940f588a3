/- One unit of a program: parsed and resolved. No conditions but those in each statement. -/
import Derived.Test.YtbiepiggmagfcaaGreatDoorPa9
import Derived.Test.YtbiepiggmagfcaaGreatDoorRs3
import Derived.Test.YtbiepiggmagfcaaGreatDoorMk5
set_option linter.unusedVariables false
set_option linter.unusedSimpArgs false
namespace Go.Proofs.YtbiepiggmagfcaaGreatDoor
open Go Go.Sy Go.RowKit
structure Un where
 s:List UInt8
 t:List UInt8
def Un.c (u:Un):List C:=[.v (.string (bs u.s)),.v (.string (bs u.t))]
abbrev zUc:List C:=[.v (.string (bs [])),.v (.string (bs []))]
theorem unc_nm (u:Un):∀c∈u.c,c.names=[]:=by
 intro c hc
 simp only[Un.c,List.mem_cons,List.not_mem_nil,or_false]at hc
 rcases hc with rfl|rfl<;>rfl
noncomputable def mUn:RowM Un:=rowMOf zUc Un.c unc_nm
theorem mUn_z:mUn.z=zUc:=rfl
theorem mUn_e:mUn.e=Un.c:=rfl
theorem unc_inj (a b:Un) (h:a.c=b.c):a=b:=by
 obtain⟨s,t⟩:=a
 obtain⟨s',t'⟩:=b
 simp only[Un.c,List.cons.injEq,C.v.injEq,Value.string.injEq,and_true]at h
 rw[bs_inj h.1,bs_inj h.2]
theorem mem_us (l:List Un):∀q,some q∈[some ((zUc,l.map Un.c):MV)]→∀r∈q.2,∀c∈r,c.names=[]:=by
 intro q hq r hr c hc
 simp only[List.mem_singleton,Option.some.injEq]at hq
 subst hq
 obtain⟨u,_,rfl⟩:=List.mem_map.1 hr
 exact unc_nm u c hc
def fl3:List C:=[.v (.bool false),.v (.bool false),.v (.bool false)]
def pgC (l:List Fn):List C:=[.v (.slice none 0 0),.v (.slice none 0 0),.d (.sl zFn (l.map Fn.r))]
theorem fn_stor (f:Fn):rowsStor [f.c]:=by
 intro r h c hc
 simp only[List.mem_singleton]at h
 subst h
 simp only[Fn.c,List.mem_cons,List.not_mem_nil,or_false]at hc
 rcases hc with rfl|rfl|rfl|rfl<;>rfl
def pgF (u:Un) (m:Nat):List Fn:=
 if ((funF u.t).2.2 != 0)=true then []
 else if ((resF (funF u.t).1 u.s m).2.2 != 0)=true then []
 else [(resF (funF u.t).1 u.s m).1]
abbrev yc_Program (n:Nat) (m:Nat) (l:List Un):Prop:=∃u:Un,l=[u]∧(u.s==gloB)=false∧smallB u.t∧okF (funF u.t).1∧okB n m (funF u.t).1.body
abbrev yr_Program (n:Nat) (m:Nat) (l:List Un):SV:=.agg (pgC (pgF (l.headD ⟨[],[]⟩) m))
abbrev ym_Program (n:Nat) (m:Nat) (l:List Un):List (Option MV):=[some (zUc,l.map Un.c)]
noncomputable abbrev ya_Program:ArgM ((List Un)×Unit):=(amS (mUn) am0)
abbrev yq_Program (n:Nat) (m:Nat):Prop:=CallsM Tryz.prog 44 ((ya_Program).args 0) (ya_Program).mem (fun p:(List Un)×Unit=>yc_Program n m p.1) (fun p:(List Un)×Unit=>yr_Program n m p.1) (fun p:(List Un)×Unit=>ym_Program n m p.1)
theorem yl_Program (n:Nat) (m:Nat):∀p,(fun p:(List Un)×Unit=>yc_Program n m p.1) p→lenM ((ya_Program).mem p).length ((fun p:(List Un)×Unit=>ym_Program n m p.1) p)=true:=by intro p _;rfl
theorem yo_Program (n:Nat) (m:Nat):∀p,(fun p:(List Un)×Unit=>yc_Program n m p.1) p→outV ((fun p:(List Un)×Unit=>ym_Program n m p.1) p).length ((fun p:(List Un)×Unit=>yr_Program n m p.1) p)=true:=by intro p _;first|rfl|exact ex_out _ _|exact cd_out _ _|(simp[outV,outC,ex_out,cd_out];done)
theorem yn_Program (n:Nat) (m:Nat):∀p,(fun p:(List Un)×Unit=>yc_Program n m p.1) p→∀q,some q∈(fun p:(List Un)×Unit=>ym_Program n m p.1) p→∀r∈q.2,∀c∈r,c.names=[]:=by intro p _;exact mem_us _
noncomputable def yg_Program {X:Ctx} {w0:World} (n:Nat) (m:Nat) (h:yq_Program n m):Sy.Spec Tryz.prog X w0:=specM 44 Tryz.call44 (ya_Program) (fun p:(List Un)×Unit=>yc_Program n m p.1) (fun p:(List Un)×Unit=>yr_Program n m p.1) (fun p:(List Un)×Unit=>ym_Program n m p.1) (yl_Program n m) (yo_Program n m) (yn_Program n m) h
attribute [local go_sem] Fn.c Un.c fl3 pgC
set_option maxRecDepth 20000 in set_option maxHeartbeats 8000000 in
theorem y_Program (n:Nat) (m:Nat):yq_Program n m:=by
 rintro ⟨l,_u⟩ w M I lab fz xs hc hA hl hx
 refine calls_toML Tryz.func44 rfl ((ya_Program).mem ⟨l,_u⟩) w M I lab fz [yp_Func,(yg_resolve n m (y_resolve n m))] [] ((ya_Program).args 0 ⟨l,_u⟩) ((fun p:(List Un)×Unit=>ym_Program n m p.1) ⟨l,_u⟩) ((fun p:(List Un)×Unit=>yr_Program n m p.1) ⟨l,_u⟩) xs hA hl hx (fun v hv k hk=>by have:=(ya_Program).an 0 ⟨l,_u⟩ v hv k hk;omega) (Nat.le_of_ble_eq_true rfl) (Nat.le_of_ble_eq_true rfl) ?_
 clear hx hl hA xs
 simp only[Tryz.f44]
 obtain⟨u,rfl,hg,hs,h1,h2⟩:=hc
 simp only[gloB]at hg
 have h0:([u]:List Un).headD ⟨[],[]⟩=u:=rfl
 simp only[↓eB,seval,go_sem,yp_Func,yg_resolve,cFn_e,cFn_d,fn_eta,pairO_n,pairN_o,spFn_n,mUn_e,mUn_z]
 refine loop_ok (Y:=Nat×List Fn) (fun z=>(z.1=0∧z.2=[])∨(z.1=1∧z.2=pgF u m))
  (fun z=>⟨[(0,true,.one (.s 0)),(2,true,.one (.p 2 0 0)),(3,true,.one (.p 3 0 0)),(4,true,.one (.v (.int .i64 (z.1:Int))))],
   [(0,.vec 0 zUc [u.c]),(2,.vec 0 fl3 [[.v (.slice none 0 0),.v (.slice none 0 0),.v (.slice none 0 0)]]),(3,.vec 0 fl3 [pgC z.2])]⟩)
  (fun z=>1-z.1) (0,[]) (.inl ⟨rfl,rfl⟩) ?_ ?_
 ·refine to_with [.nilr 3 0 2 1000 zFc,.fz 1000] ?_;simp only[↓eB,seval,go_sem,zFc,zFn]
 ·rintro ⟨i,fs⟩ hJ
  refine vc_ok [yp_Func,yg_resolve n m (y_resolve n m)] [] _ _ _ ?_
  dsimp only at hJ
  rcases hJ with⟨rfl,rfl⟩|⟨rfl,rfl⟩
  ·obtain⟨⟨F,a1,r1⟩,hF⟩:∃x,funF u.t=x:=⟨_,rfl⟩
   obtain⟨⟨G,a2,r2⟩,hR⟩:∃x,resF F u.s m=x:=⟨_,rfl⟩
   rw[hF]at h1 h2
   dsimp only at h1 h2
   cases e1:(r1==0) with
   |false=>
    have e1':(r1 != 0)=true:=by simp[bne,e1]
    have hp:pgF u m=[]:=by unfold pgF;rw[hF];exact if_pos e1'
    simp only[↓eB,seval,go_sem,yp_Func,yg_resolve,cFn_e,cFn_d,fn_eta,pairO_n,pairN_o,spFn_n,mUn_e,mUn_z,hg,hF,e1,e1']
    try simp only[impB,impN]
    repeat' first|exact ck|with_reducible apply And.intro|intro _
    all_goals try first|exact hs|(rename_i h;first|exact oI h|exact nah h)|(rename_i _ h _ g;exact sL h g)|decide|omega
    refine⟨(1,[]),.inr ⟨rfl,hp.symm⟩,by decide,to_with [] ?_⟩
    simp only[↓eB,seval,go_sem,zFc,zFn]
   |true=>
    have e1':(r1 != 0)=false:=by simp[bne,e1]
    cases e2:(r2==0) with
    |false=>
     have e2':(r2 != 0)=true:=by simp[bne,e2]
     have hp:pgF u m=[]:=by unfold pgF;rw[hF];simp only[e1',hR,e2',Bool.false_eq_true,if_false,if_true]
     simp only[↓eB,seval,go_sem,yp_Func,yg_resolve,cFn_e,cFn_d,fn_eta,pairO_n,pairN_o,spFn_n,mUn_e,mUn_z,hg,hF,hR,e1,e1',e2,e2']
     try simp only[impB,impN]
     repeat' first|exact ck|with_reducible apply And.intro|intro _
     all_goals try first|exact hs|exact h1|exact h2|(rename_i h;first|exact oI h|exact nah h)|(rename_i _ h _ g;exact sL h g)|decide|omega
     refine⟨(1,[]),.inr ⟨rfl,hp.symm⟩,by decide,to_with [] ?_⟩
     simp only[↓eB,seval,go_sem,zFc,zFn]
    |true=>
     have e2':(r2 != 0)=false:=by simp[bne,e2]
     have hp:pgF u m=[G]:=by unfold pgF;rw[hF];simp only[e1',hR,e2',Bool.false_eq_true,if_false]
     simp only[↓eB,seval,go_sem,yp_Func,yg_resolve,cFn_e,cFn_d,fn_eta,pairO_n,pairN_o,spFn_n,mUn_e,mUn_z,hg,hF,hR,e1,e1',e2,e2']
     refine⟨hs,⟨h1,h2⟩,chk_ok (by kernel_rfl),?_⟩
     refine loop_ok (Y:=Unit) (fun _=>True)
      (fun _=>⟨[(0,true,.one (.s 0)),(2,true,.one (.p 2 0 0)),(3,true,.one (.p 3 0 0)),(4,true,.one (.v (.int .i64 0))),(8,true,.one (.p 8 0 0)),(11,true,.one (.v (.int .i64 0)))],
       [(0,.vec 0 zUc [u.c]),(2,.vec 0 fl3 [[.v (.slice none 0 0),.v (.slice none 0 0),.v (.slice none 0 0)]]),(3,.vec 0 fl3 [pgC []]),(8,.vec 0 fl4 [G.c])]⟩)
      (fun _=>0) () trivial ?_ ?_
     ·refine to_with [] ?_;simp only[↓eB,seval,go_sem,fl4,zFc,zFn]
     ·rintro ⟨⟩ _
      refine vc_ok [yp_Func,yg_resolve n m (y_resolve n m)] [] _ _ _ ?_
      simp only[↓eB,seval,go_sem,yp_Func,yg_resolve,cFn_e,cFn_d,fn_eta,pairO_n,pairN_o,spFn_n,mUn_e,mUn_z,fl4,zFn,List.getD_nil]
      refine⟨chk_ok (by kernel_rfl),⟨fun q h=>(by cases h;rfl),fun r h=>(by cases h)⟩,⟨fun q h=>(by cases h;rfl),fn_stor G⟩,chk_ok (by kernel_rfl),(1,[G]),.inr ⟨rfl,hp.symm⟩,Nat.lt_succ_self 0,
       to_trans (t:=⟨[(0,true,.one (.s 0)),(2,true,.one (.p 2 0 0)),(3,true,.one (.p 3 0 0)),(4,true,.one (.v (.int .i64 1)))],
        [(0,.vec 0 zUc [u.c]),(2,.vec 0 fl3 [[.v (.slice none 0 0),.v (.slice none 0 0),.v (.slice none 0 0)]]),(3,.vec 0 fl3 [[.v (.slice none 0 0),.v (.slice none 0 0),.s 99]]),(99,.vec 0 zFc [G.c])]⟩) (to_with [] ?_) (to_with [.fz 99] ?_)⟩
      ·simp only[↓eB,seval,go_sem,fl4,Fn.r,zFc,zFn]
      ·simp only[↓eB,seval,go_sem,fl4,Fn.r,zFc,zFn]
  ·simp only[↓eB,seval,go_sem,yp_Func,yg_resolve,cFn_e,cFn_d,fn_eta,pairO_n,pairN_o,spFn_n,mUn_e,mUn_z]
   refine ret_with [] ?_;simp only[↓eB,seval,go_sem,bne,yr_Program,ym_Program,h0]
end Go.Proofs.YtbiepiggmagfcaaGreatDoor
namespace Go.Proofs.YtbiepiggmagfcaaGreatDoor
open Go Go.Sy Go.RowKit
theorem mUn_d (s t:List UInt8):mUn.d [.v (.string (bs s)),.v (.string (bs t))]=some ⟨s,t⟩:=rowMOf_d unc_inj ⟨s,t⟩
def fnF (s:Int) (b:List Int) (m:Nat):Fn:=(pgF ⟨nmS s,txT s b⟩ m).headD fn0
theorem nm_glo (s:Int):(nmS s==gloB)=false:=by
 have h:(nmS s).length≤1:=nm_len s
 cases e:(nmS s==gloB) with
 |false=>rfl
 |true=>rw[eq_of_beq e]at h;exact absurd h (by decide)
theorem txT_len (s:Int) (b:List Int):(txT s b).length≤2000000:=by
 have hv:nxV 6 (m0 b)<6:=Int.tmod_lt_of_pos _ (by decide)
 have h1:=bl_len (f:=stT 2 s) (fun q=>st_len 2 s q) (1+nxV 6 (m0 b)).toNat (txH s) (nxM (m0 b))
 have h2:=bn6 (c:=stL 2) (1+nxV 6 (m0 b)).toNat (by omega)
 have h3:=stL_le 2 (by decide)
 have h4:=txH_len s
 have h5:=iv_len (nxM (txB s b).2)
 have h6:(txB s b).1.length≤60+6*200000:=by unfold txB;omega
 unfold txT
 split<;>simp only[List.length_append,List.length_cons,List.length_nil]<;>omega
theorem pgF_one (u:Un) (m:Nat):pgF u m=[]∨∃g,pgF u m=[g]:=by
 unfold pgF
 split
 ·exact .inl rfl
 split
 ·exact .inl rfl
 ·exact .inr ⟨_,rfl⟩
abbrev yc_Fn (n:Nat) (m:Nat) (s:Int) (b:List Int):Prop:=0≤s∧okY b∧okF (funF (txT s b)).1∧okB n m (funF (txT s b)).1.body
abbrev yr_Fn (n:Nat) (m:Nat) (s:Int) (b:List Int):SV:=.agg (fnF s b m).c
noncomputable abbrev ya_Fn:ArgC ((Int)×(List Int)×Unit):=(acS (cInt .i64) (acS (cBy) ac0))
abbrev yq_Fn (n:Nat) (m:Nat):Prop:=CallsY Tryz.prog 14 ya_Fn (fun p:(Int)×(List Int)×Unit=>yc_Fn n m p.1 p.2.1) (fun p:(Int)×(List Int)×Unit=>yr_Fn n m p.1 p.2.1)
attribute [local go_sem] Fn.c Un.c cBy_d cBy_e fn_eta mUn_d mUn_e mUn_z pairN_o pairO_n pgC spFn_n yg_Program yp_Name yp_Text zBy zFn
set_option maxRecDepth 20000 in set_option maxHeartbeats 8000000 in
theorem y_Fn (n:Nat) (m:Nat):yq_Fn n m:=by
 rintro ⟨s,b,_u⟩ w fz xs hc hfz hl hx
 refine calls_toL Tryz.func14 rfl w fz [yp_Name,yp_Text,(yg_Program n m (y_Program n m))] [] ya_Fn (fun p:(Int)×(List Int)×Unit=>yr_Fn n m p.1 p.2.1) _ xs hfz hl hx (Nat.le_of_ble_eq_true rfl) ?_
 clear hx hl hfz xs
 simp only[Tryz.f14]
 obtain⟨g0,g1,g2,g3⟩:=hc
 dsimp only at g0 g1 g2 g3
 have hs:smallB (txT s b):=Nat.le_trans (txT_len s b) (by decide)
 have hc1:∃u:Un,[(⟨nmS s,txT s b⟩:Un)]=[u]∧(u.s==gloB)=false∧smallB u.t∧okF (funF u.t).1∧okB n m (funF u.t).1.body:=⟨_,rfl,nm_glo s,hs,g2,g3⟩
 have h0:([⟨nmS s,txT s b⟩]:List Un).headD ⟨[],[]⟩=⟨nmS s,txT s b⟩:=rfl
 rcases pgF_one ⟨nmS s,txT s b⟩ m with hp|⟨G,hp⟩
 ·have hr:fnF s b m=fn0:=by unfold fnF;rw[hp];rfl
  simp only[↓eB,seval,go_sem,h0,hp]
  try simp only[impB,impN]
  repeat' first|exact ck|with_reducible apply And.intro|intro _
  all_goals first|exact g0|exact g1|exact hc1|(rename_i h;first|exact oI h|exact nah h)|(rename_i _ h _ g;exact sL h g)|decide|omega|(refine ret_with [] ?_;simp only[↓eB,seval,go_sem,bne,yr_Fn,hr])
 ·have hr:fnF s b m=G:=by unfold fnF;rw[hp];rfl
  simp only[↓eB,seval,go_sem,h0,hp,Fn.r]
  try simp only[impB,impN]
  repeat' first|exact ck|with_reducible apply And.intro|intro _
  all_goals first|exact g0|exact g1|exact hc1|(rename_i h;first|exact oI h|exact nah h)|(rename_i _ h _ g;exact sL h g)|decide|omega|(refine ret_with [] ?_;simp only[↓eB,seval,go_sem,bne,yr_Fn,hr])
end Go.Proofs.YtbiepiggmagfcaaGreatDoor
namespace Go.Proofs.YtbiepiggmagfcaaGreatDoor
open Go Go.Sy Go.RowKit
theorem OkS.mono {n n':Nat} {s:Sm} (h:OkS n s) (hn:n≤n'):OkS n' s:=
 ⟨Nat.lt_of_lt_of_le h.e hn,Nat.lt_of_lt_of_le h.f hn,Nat.lt_of_lt_of_le h.c hn,fun a ha=>Nat.lt_of_lt_of_le (h.a a ha) hn,h.l⟩
theorem okB_mono {n n':Nat} (hn:n≤n'):∀{m m':Nat} {l:List Sm},okB n m l→m≤m'→okB n' m' l
 |0,_,_,h,_=>h.elim
 |m+1,0,_,_,hm=>absurd hm (by omega)
 |m+1,m'+1,l,h,hm=>⟨h.1,fun s hs=>by
   obtain⟨h1,h2,h3⟩:=h.2 s hs
   exact⟨h1.mono hn,okB_mono hn h2 (by omega),okB_mono hn h3 (by omega)⟩⟩
def GoodS (s:Sm):Prop:=∃n m,OkS n s∧okB n m s.th∧okB n m s.el
theorem ex_arg:∀l:List Ar,∃n,∀a∈l,a.e.dp<n
 |[]=>⟨0,fun a h=>by cases h⟩
 |b::l=>by
  obtain⟨n,h⟩:=ex_arg l
  refine⟨max n (b.e.dp+1),fun a ha=>?_⟩
  rcases List.mem_cons.1 ha with rfl|ha
  ·exact Nat.lt_of_lt_of_le (Nat.lt_succ_self _) (Nat.le_max_right _ _)
  ·exact Nat.lt_of_lt_of_le (h a ha) (Nat.le_max_left _ _)
theorem good_list:∀l:List Sm,(∀s∈l,GoodS s)→∃n m,∀s∈l,OkS n s∧okB n m s.th∧okB n m s.el
 |[],_=>⟨0,0,fun s h=>by cases h⟩
 |t::l,h=>by
  obtain⟨n,m,h1⟩:=good_list l fun s hs=>h s (List.mem_cons_of_mem _ hs)
  obtain⟨n',m',a,b,c⟩:=h t (List.mem_cons_self ..)
  refine⟨max n n',max m m',fun s hs=>?_⟩
  rcases List.mem_cons.1 hs with rfl|hs
  ·exact⟨a.mono (Nat.le_max_right _ _),okB_mono (Nat.le_max_right _ _) b (Nat.le_max_right _ _),okB_mono (Nat.le_max_right _ _) c (Nat.le_max_right _ _)⟩
  ·obtain⟨a,b,c⟩:=h1 s hs
   exact⟨a.mono (Nat.le_max_left _ _),okB_mono (Nat.le_max_left _ _) b (Nat.le_max_left _ _),okB_mono (Nat.le_max_left _ _) c (Nat.le_max_left _ _)⟩
theorem good_body {l:List Sm} (h:∀s∈l,GoodS s) (hl:l.length≤5000):∃n m,okB n m l:=by
 obtain⟨n,m,h1⟩:=good_list l h
 exact⟨n,m+1,hl,h1⟩
theorem good_mk (k:Int) (x y:List UInt8) (e g:Ex) (cd:Cd) (ar:List Ar) (th el:List Sm) (no:Int) (ha:ar.length≤5000) (ht:th.length≤5000) (he:el.length≤5000) (h1:∀s∈th,GoodS s) (h2:∀s∈el,GoodS s):GoodS (.mk k x y e g cd ar th el no):=by
 obtain⟨n1,m1,b1⟩:=good_body h1 ht
 obtain⟨n2,m2,b2⟩:=good_body h2 he
 obtain⟨n3,b3⟩:=ex_arg ar
 refine⟨n1+n2+n3+e.dp+g.dp+cd.dp+1,m1+m2,⟨?_,?_,?_,fun a h=>?_,ha⟩,okB_mono (by omega) b1 (by omega),okB_mono (by omega) b2 (by omega)⟩
 ·show e.dp<_;omega
 ·show g.dp<_;omega
 ·show cd.dp<_;omega
 ·have:=b3 a h;omega
theorem stmtsL_good {st:Pr→R Sm} (hu:∀p,okP p→Nx p (st p).2) (hg:∀p,okP p→GoodS (st p).1):∀(k:Nat) (l:List Sm) (p:Pr),okP p→(∀s∈l,GoodS s)→(∀s∈(stmtsL st k l p).1,GoodS s)∧(stmtsL st k l p).1.length≤l.length+k
 |0,l,p,h,hl=>⟨hl,Nat.le_refl _⟩
 |k+1,l,p,h,hl=>by
  simp only[stmtsL]
  split
  ·split
   ·exact⟨hl,by simp only;omega⟩
   split
   ·exact⟨fun s hs=>(by cases hs),Nat.zero_le _⟩
   ·have h1:=stmtsL_good hu hg k (l++[(st p).1]) (st p).2 (hu p h).ok (fun s hs=>by
     rcases List.mem_append.1 hs with hs|hs
     ·exact hl s hs
     ·rw[List.mem_singleton.1 hs];exact hg p h)
    refine⟨h1.1,?_⟩
    have h2:=h1.2
    simp only[List.length_append,List.length_cons,List.length_nil]at h2
    omega
  ·exact⟨hl,by simp only;omega⟩
theorem stmtsW_good {st:Pr→R Sm} (hu:∀p,okP p→Nx p (st p).2) (hg:∀p,okP p→GoodS (st p).1) {p:Pr} (h:okP p):(∀s∈(stmtsW st p).1,GoodS s)∧(stmtsW st p).1.length≤5000:=by
 have h1:=stmtsL_good hu hg (p.l.length+1) [] p h (fun s hs=>by cases hs)
 have h2:=h.2.2.1
 refine⟨h1.1,?_⟩
 have h3:=h1.2
 simp only[List.length_nil]at h3
 show (stmtsL st (p.l.length+1) [] p).1.length≤5000
 omega
theorem argL_len:∀(k:Nat) (l:List Ar) (p:Pr),(argL k l p).1.length≤l.length+k
 |0,l,p=>by simp[argL]
 |k+1,l,p=>by
  simp only[argL]
  split
  ·split
   ·simp only[List.length_append,List.length_cons,List.length_nil];omega
   ·have h2:=argL_len k (l++[⟨false,[],(exS p).1⟩]) (wanP [44] (exS p).2)
    simp only[List.length_append,List.length_cons,List.length_nil]at h2
    omega
  ·simp
theorem argW_len {p:Pr} (h:okP p):(argW p).1.length≤5000:=by
 unfold argW
 split
 ·simp
 ·have h1:=argL_len (p.l.length+1) [] p
  have h2:=h.2.2.1
  simp only[List.length_nil]at h1
  omega
theorem blkW_good {st:Pr→R Sm} (hu:∀p,okP p→Nx p (st p).2) (hg:∀p,okP p→GoodS (st p).1) {p:Pr} (h:okP p):(∀s∈(blkW st p).1,GoodS s)∧(blkW st p).1.length≤5000:=by
 unfold blkW
 split
 ·rename_i hi
  split
  ·rename_i hb
   have h1:=opn_adv h hb (isT_e hi).2
   exact stmtsW_good hu hg h1.ok
  ·exact⟨fun s hs=>(by cases hs),Nat.zero_le _⟩
 ·exact⟨fun s hs=>(by cases hs),Nat.zero_le _⟩
theorem ifB_good {st:Pr→R Sm} (hu:∀p,okP p→Nx p (st p).2) (hg:∀p,okP p→GoodS (st p).1) {p:Pr} {t:List UInt8} (h:okP p) (hi:isT t p=true):(∀s∈(ifB (blkW st) p).1,GoodS s)∧(ifB (blkW st) p).1.length≤5000:=by
 have h1:=ifC_nx h hi
 exact blkW_good hu hg (wan_nx (t:=[41]) h1.ok).ok
theorem good_flat (k:Int) (x y:List UInt8) (e g:Ex) (cd:Cd) (ar:List Ar) (no:Int) (ha:ar.length≤5000):GoodS (.mk k x y e g cd ar [] [] no):=
 good_mk k x y e g cd ar [] [] no ha (Nat.zero_le _) (Nat.zero_le _) (fun s hs=>by cases hs) (fun s hs=>by cases hs)
theorem val_len {p:Pr} (h:okP p):((valF p).1.a.getD []).length≤5000:=by
 unfold valF
 split
 ·exact Nat.zero_le _
 split
 ·exact Nat.zero_le _
 split
 ·exact Nat.zero_le _
 split
 ·exact Nat.zero_le _
 split
 ·rename_i hb
  exact argW_len (ahB_nx h hb).ok
 ·exact Nat.zero_le _
theorem stmB_good {st:Pr→R Sm} (hu:∀p,okP p→Nx p (st p).2) (hg:∀p,okP p→GoodS (st p).1) (no:Int) {p:Pr} (h:okP p):GoodS (stmB st no p).1:=by
 unfold stmB
 split
 ·exact good_flat _ _ _ _ _ _ [] _ (Nat.zero_le _)
 split
 ·exact good_flat _ _ _ _ _ _ [] _ (Nat.zero_le _)
 split
 ·rename_i hi
  have h1:=ifB_good hu hg h hi
  exact good_mk _ _ _ _ _ _ [] _ [] _ (Nat.zero_le _) h1.2 (Nat.zero_le _) h1.1 (fun s hs=>by cases hs)
 split
 ·rename_i hi
  have h1:=ifB_good hu hg h hi
  split
  ·rename_i he
   have h2:=ifB_nx hu h hi
   have h3:=blkW_good hu hg (isT_adv h2.ok he).ok
   exact good_mk _ _ _ _ _ _ [] _ _ _ (Nat.zero_le _) h1.2 h3.2 h1.1 h3.1
  ·exact good_mk _ _ _ _ _ _ [] _ [] _ (Nat.zero_le _) h1.2 (Nat.zero_le _) h1.1 (fun s hs=>by cases hs)
 split
 ·exact good_flat _ _ _ _ _ _ [] _ (Nat.zero_le _)
 split
 ·rename_i hi
  exact good_flat _ _ _ _ _ _ _ _ (argW_len (isT_adv (nam_nx h).ok hi).ok)
 split
 ·exact good_flat _ _ _ _ _ _ [] _ (Nat.zero_le _)
 ·exact good_flat _ _ _ _ _ _ _ _ (val_len (wan_nx (t:=[61]) (nam_nx h).ok).ok)
theorem stmF_good:∀(f:Nat) (p:Pr),okP p→GoodS (stmF f p).1
 |0,p,h=>good_flat _ _ _ _ _ _ [] _ (Nat.zero_le _)
 |f+1,p,h=>by
  simp only[stmF]
  split
  ·exact good_flat _ _ _ _ _ _ [] _ (Nat.zero_le _)
  ·exact stmB_good (stm_nx f) (stmF_good f) _ (nxt_nx h).ok
theorem parL_len:∀(k:Nat) (l:List Vr) (p:Pr),(parL k l p).1.length≤l.length+k
 |0,l,p=>Nat.le_refl _
 |k+1,l,p=>by
  have h1:=morL_len l (isT [42] p) 6 (takP [42] p)
  simp only[parL]
  split
  ·split
   ·simp only;omega
   ·have h2:=parL_len k (morL l (isT [42] p) 6 (takP [42] p)) (wanP [44] (morP l 6 (takP [42] p)))
    omega
  ·simp only;omega
theorem locL_len:∀(k:Nat) (l:List Vr) (p:Pr),(locL k l p).1.length≤l.length+k
 |0,l,p=>Nat.le_refl _
 |k+1,l,p=>by
  have h1:=morL_len l (isT tPtr p) 20 (adv p)
  simp only[locL]
  split
  ·have h2:=locL_len k (morL l (isT tPtr p) 20 (adv p)) (wanP [59] (morP l 20 (adv p)))
   omega
  ·simp only;omega
theorem parW_len {p:Pr} (h:okP p):(parW p).1.length≤5000:=by
 unfold parW
 split
 ·exact Nat.zero_le _
 ·have h1:=parL_len (p.l.length+1) [] p
  have h2:=h.2.2.1
  simp only[List.length_nil]at h1
  omega
theorem locW_len {p:Pr} (h:okP p):(locW p).1.length≤5000:=by
 have h1:=locL_len p.l.length [] p
 have h2:=h.2.2.1
 simp only[List.length_nil]at h1
 show (locL p.l.length [] p).1.length≤5000
 omega
theorem ope_ok {p:Pr} (h:okP p):okP (opeP p):=by
 unfold opeP
 split
 ·rename_i hi
  split
  ·rename_i hb
   exact(opn_adv h hb (isT_e hi).2).ok
  ·rename_i hb
   exact(fail_nx 51 (opn_no h (by simpa using hb)).ok).ok
 ·exact(fail_nx 51 h).ok
theorem funF_good (s:List UInt8):okF (funF s).1∧∃n m,okB n m (funF s).1.body:=by
 have hz:okF fn0∧∃n m,okB n m fn0.body:=⟨⟨Nat.zero_le _,Nat.zero_le _⟩,0,1,Nat.zero_le _,fun s hs=>by cases hs⟩
 unfold funF
 split
 ·exact hz
 split
 ·exact hz
 ·have h3:=(hd2_nx s (s.length:Int)).ok
  have h4:okP (opeP (fp3 (rxT s).1 (s.length:Int)).2):=ope_ok (parW_nx h3).ok
  have h5:okP (fp4 (rxT s).1 (s.length:Int)).2:=(locL_nx _ _ _ h4).ok
  have h6:=stmtsW_good (stm_nx 41) (stmF_good 41) h5
  exact⟨⟨parW_len h3,locW_len h4⟩,good_body h6.1 h6.2⟩
end Go.Proofs.YtbiepiggmagfcaaGreatDoor
namespace Go.Proofs.YtbiepiggmagfcaaGreatDoor
open Go Go.Sy Go.RowKit
noncomputable def dpN (t:List UInt8):Nat:=(funF_good t).2.choose
noncomputable def dpM (t:List UInt8):Nat:=(funF_good t).2.choose_spec.choose
theorem dp_ok (t:List UInt8):okB (dpN t) (dpM t) (funF t).1.body:=(funF_good t).2.choose_spec.choose_spec
noncomputable def fnA (s:Int) (b:List Int):Fn:=fnF s b (dpM (txT s b))
noncomputable section
abbrev yc_FnA (s:Int) (b:List Int):Prop:=0≤s∧okY b
abbrev yr_FnA (s:Int) (b:List Int):SV:=.agg (fnA s b).c
noncomputable abbrev ya_FnA:ArgC ((Int)×(List Int)×Unit):=(acS (cInt .i64) (acS (cBy) ac0))
abbrev yq_FnA:Prop:=CallsY Tryz.prog 14 ya_FnA (fun p:(Int)×(List Int)×Unit=>yc_FnA p.1 p.2.1) (fun p:(Int)×(List Int)×Unit=>yr_FnA p.1 p.2.1)
theorem yn_FnA:∀p:(Int)×(List Int)×Unit,((fun p:(Int)×(List Int)×Unit=>yr_FnA p.1 p.2.1) p).names=[]:=by intro p;rfl
noncomputable def yg_FnA {X:Ctx} {w0:World} (h:yq_FnA):Sy.Spec Tryz.prog X w0:=specD 14 Tryz.call14 ya_FnA (fun p:(Int)×(List Int)×Unit=>yc_FnA p.1 p.2.1) (fun p:(Int)×(List Int)×Unit=>yr_FnA p.1 p.2.1) (yn_FnA) h
end
theorem y_FnA:yq_FnA:=by
 rintro ⟨s,b,_u⟩ w fz xs hc hfz hl hx
 exact y_Fn (dpN (txT s b)) (dpM (txT s b)) ⟨s,b,_u⟩ w fz xs ⟨hc.1,hc.2,(funF_good _).1,dp_ok _⟩ hfz hl hx
end Go.Proofs.YtbiepiggmagfcaaGreatDoor
