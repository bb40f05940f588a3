/- Codings of trees, statements, functions. No conditions but those in each statement. -/
import Derived.Test.YtjnnmindcbgjhabAt
import Derived.Test.YtjnnmindcbgjhabMi1
set_option linter.unusedVariables false
set_option linter.unusedSimpArgs false
namespace Go.Proofs.Ytjnnmindcbgjhab
open Go Go.Sy Go.RowKit
theorem leC_d {c:C} {z z':List D} {es es':List (List D)} (h:leC c (.d (.sl z es))) (h':leC c (.d (.sl z' es'))):es=es':=by
 rcases h with rfl|⟨h1,h2⟩
 ·rcases h' with h|⟨h3,h4⟩
  ·simp only[C.d.injEq,D.sl.injEq]at h;exact h.2
  ·cases h3
 ·obtain rfl:=nilS_eq h1
  rcases h' with h|⟨h3,h4⟩
  ·cases h
  ·obtain⟨_,he⟩:=emS_eq h2
   obtain⟨_,he'⟩:=emS_eq h4
   simp only[C.d.injEq,D.sl.injEq]at he he'
   rw[he.2,he'.2]
theorem leC_v {c:C} {x y:Value} (h:leC c (.v x)) (h':leC c (.v y)):x=y:=by
 rcases h with rfl|⟨_,h2⟩
 ·rcases h' with h|⟨_,h4⟩
  ·simpa using h
  ·cases h4
 ·cases h2
theorem leC_o {c:C} {d d':D} (hd:∀z,oD d≠.d (.sl z [])) (hd':∀z,oD d'≠.d (.sl z [])) (h:leC c (oD d)) (h':leC c (oD d')):oD d=oD d':=by
 rcases h with rfl|⟨_,h2⟩
 ·rcases h' with h|⟨_,h4⟩
  ·exact h
  ·obtain⟨z,h⟩:=emS_eq h4;exact absurd h (hd' z)
 ·obtain⟨z,h⟩:=emS_eq h2;exact absurd h (hd z)
theorem oD_inj {a b:D} (h:oD a=oD b):a=b:=by cases a<;>cases b<;>simp_all [oD]
theorem exC_inj {a b:Ex} (h:exC a=exC b):a=b:=exd_inj (oD_inj h)
theorem cdC_inj {a b:Cd} (h:cdC a=cdC b):a=b:=cdd_inj (oD_inj h)
theorem ex_nsl (e:Ex):∀z,oD e.d≠.d (.sl z []):=by intro z;cases e<;>simp[Ex.d,oD]
theorem cd_nsl (e:Cd):∀z,oD e.d≠.d (.sl z []):=by intro z;cases e<;>simp[Cd.d,oD]
noncomputable def cEx:Cod Ex:=codOf (fun e=>.one (exC e)) (fun v a b h h'=>by
 cases v with
 |one c=>exact exC_inj (leC_o (ex_nsl a) (ex_nsl b) h h')
 |agg l=>exact h.elim
 |tup l=>exact h.elim) (fun e=>ex_names e)
theorem cEx_e (e:Ex):cEx.e e= .one (exC e):=rfl
theorem cEx_d (e:Ex):cEx.d (.one (exC e))=some e:=codOf_le (e:=fun e=>.one (exC e)) (leV_refl _)
theorem cEx_n:cEx.d (.one (.v (.pointer none)))=some .nil:=cEx_d .nil
noncomputable def cCd:Cod Cd:=codOf (fun e=>.one (cdC e)) (fun v a b h h'=>by
 cases v with
 |one c=>exact cdC_inj (leC_o (cd_nsl a) (cd_nsl b) h h')
 |agg l=>exact h.elim
 |tup l=>exact h.elim) (fun e=>cd_names e)
theorem cCd_e (e:Cd):cCd.e e= .one (cdC e):=rfl
theorem cCd_d (e:Cd):cCd.d (.one (cdC e))=some e:=codOf_le (e:=fun e=>.one (cdC e)) (leV_refl _)
theorem cCd_n:cCd.d (.one (.v (.pointer none)))=some .nil:=cCd_d .nil
theorem fn_uq (v:SV) (a b:Fn) (h:leV v (.agg a.c)) (h':leV v (.agg b.c)):a=b:=by
 cases v with
 |one c=>exact h.elim
 |tup l=>exact h.elim
 |agg l=>
  obtain⟨n,ps,ls,bd⟩:=a
  obtain⟨n',ps',ls',bd'⟩:=b
  match l,h,h' with
  |[c0,c1,c2,c3],⟨h0,h1,h2,h3,_⟩,⟨g0,g1,g2,g3,_⟩=>
   have e0:=leC_v h0 g0
   simp only[Value.string.injEq]at e0
   have k0:=bs_inj e0
   have k1:=map_inj vr_inj (leC_d h1 g1)
   have k2:=map_inj vr_inj (leC_d h2 g2)
   have k3:=map_inj sm_inj (leC_d h3 g3)
   simp only at k0 k1 k2 k3
   subst k0;subst k1;subst k2;subst k3;rfl
noncomputable def cFn:Cod Fn:=codOf (fun f=>.agg f.c) fn_uq (fun f=>rfl)
theorem cFn_e (f:Fn):cFn.e f= .agg f.c:=rfl
theorem cFn_d (n:List UInt8) (ps ls:List Vr) (bd:List Sm):cFn.d (.agg [.v (.string (bs n)),.d (.sl zVr (ps.map Vr.r)),.d (.sl zVr (ls.map Vr.r)),.d (.sl zSm (bd.map Sm.r))])=some ⟨n,ps,ls,bd⟩:=codOf_le (e:=fun f:Fn=>.agg f.c) (a:=⟨n,ps,ls,bd⟩) (leV_refl _)
theorem fn_eta (f:Fn):(⟨f.name,f.ps,f.ls,f.body⟩:Fn)=f:=rfl
theorem vr_map (l:List Vr):(l.map Vr.r).map (fun r=>r.map oD)=l.map Vr.c:=by rw[List.map_map];rfl
theorem vr_at {l:List Vr} {i:Nat} {x:Vr} (h:l[i]?=some x):(l.map Vr.c).getD i [.v (.string (bs [])),.v (.bool false)]=x.c:=by simp[List.getD,h]
theorem vr_stor (a:Vr):∀c∈a.c,C.stor c=true:=by
 intro c hc;simp only[Vr.c,List.mem_cons,List.not_mem_nil,or_false]at hc;rcases hc with rfl|rfl<;>rfl
theorem pairO_n {A B:Type} (x:Option A):pairO x (none:Option B)=none:=by cases x<;>rfl
theorem pairN_o {A B:Type} (x:Option B):pairO (none:Option A) x=none:=rfl
theorem spFn_n {A:Type} (Cd:A→Prop) (F:A→SV):spFn (none:Option A) Cd F=none:=rfl
def Ex.dp:Ex→Nat
 | .nil=>0
 | .mk _ _ _ a b=>max a.dp b.dp+1
def Cd.dp:Cd→Nat
 | .nil=>0
 | .mk _ a b p q _=>max (max a.dp b.dp) (max p.dp q.dp)+1
theorem sm_uq (v:SV) (a b:Sm) (h:leV v (.agg a.c)) (h':leV v (.agg b.c)):a=b:=by
 cases v with
 |one c=>exact h.elim
 |tup l=>exact h.elim
 |agg l=>
  obtain⟨k,x,y,e,f,cd,ar,th,el,no⟩:=a
  obtain⟨k',x',y',e',f',cd',ar',th',el',no'⟩:=b
  match l,h,h' with
  |[c0,c1,c2,c3,c4,c5,c6,c7,c8,c9],⟨h0,h1,h2,h3,h4,h5,h6,h7,h8,h9,_⟩,⟨g0,g1,g2,g3,g4,g5,g6,g7,g8,g9,_⟩=>
   have e0:=leC_v h0 g0
   have e1:=leC_v h1 g1
   have e2:=leC_v h2 g2
   have e9:=leC_v h9 g9
   simp only[Value.string.injEq,Value.int.injEq,true_and]at e0 e1 e2 e9
   have k1:=bs_inj e1
   have k2:=bs_inj e2
   have k3:=exC_inj (leC_o (ex_nsl _) (ex_nsl _) h3 g3)
   have k4:=exC_inj (leC_o (ex_nsl _) (ex_nsl _) h4 g4)
   have k5:=cdC_inj (leC_o (cd_nsl _) (cd_nsl _) h5 g5)
   have k6:=map_inj ar_inj (leC_d h6 g6)
   have k7:=map_inj sm_inj (leC_d h7 g7)
   have k8:=map_inj sm_inj (leC_d h8 g8)
   simp only[Sm.k,Sm.x,Sm.y,Sm.e,Sm.f,Sm.cd,Sm.ar,Sm.th,Sm.el,Sm.no]at e0 k1 k2 k3 k4 k5 k6 k7 k8 e9
   subst e0;subst k1;subst k2;subst k3;subst k4;subst k5;subst k6;subst k7;subst k8;subst e9;rfl
noncomputable def cSm:Cod Sm:=codOf (fun s=>.agg s.c) sm_uq (fun s=>List.flatMap_eq_nil_iff.2 (rowsS.nm s))
theorem cSm_e (s:Sm):cSm.e s= .agg s.c:=rfl
theorem cSm_d' (s:Sm):cSm.d (.agg s.c)=some s:=codOf_le (e:=fun s:Sm=>.agg s.c) (leV_refl _)
theorem cSm_d (k no:Int) (x y:List UInt8) (e f:Ex) (cd:Cd) (ar:List Ar) (th el:List Sm):cSm.d (.agg [.v (.int .i64 k),.v (.string (bs x)),.v (.string (bs y)),exC e,exC f,cdC cd,.d (.sl zAr (ar.map Ar.r)),.d (.sl zSm (th.map Sm.r)),.d (.sl zSm (el.map Sm.r)),.v (.int .i64 no)])=some (.mk k x y e f cd ar th el no):=cSm_d' (.mk k x y e f cd ar th el no)
theorem cEx_dp (k n:Int) (s:List UInt8) (a b:Ex):cEx.d (.one (.d (.pt (some [.v (.int .i64 k),.v (.int .i64 n),.v (.string (bs s)),a.d,b.d]))))=some (.mk k n s a b):=cEx_d (.mk k n s a b)
theorem tup_sm (s:Sm) (b:Bool):(SV.tup [.inr s.c,.inl (.v (.bool b))]).names=[]:=by
 have h:pNames (.inr s.c)=[]:=List.flatMap_eq_nil_iff.2 (rowsS.nm s)
 simp only[SV.names,List.flatMap_cons,List.flatMap_nil,h];rfl
theorem ar_map (l:List Ar):(l.map Ar.r).map (fun r=>r.map oD)=l.map Ar.c:=by rw[List.map_map];rfl
theorem ar_at {l:List Ar} {i:Nat} {x:Ar} (h:l[i]?=some x):(l.map Ar.c).getD i [.v (.bool false),.v (.string (bs [])),.v (.pointer none)]=x.c:=by simp[List.getD,h]
def fl4:List C:=[.v (.bool false),.v (.bool false),.v (.bool false),.v (.bool false)]
def fl10:List C:=[.v (.bool false),.v (.bool false),.v (.bool false),.v (.bool false),.v (.bool false),.v (.bool false),.v (.bool false),.v (.bool false),.v (.bool false),.v (.bool false)]
structure OkS (n:Nat) (s:Sm):Prop where
 e:s.e.dp<n
 f:s.f.dp<n
 c:s.cd.dp<n
 a:∀a∈s.ar,a.e.dp<n
 l:s.ar.length≤5000
noncomputable def cSs:Cod (List Sm):=codOf (fun l=>.one (.d (.sl zSm (l.map Sm.r)))) (fun v a b h h'=>by
 cases v with
 |one c=>exact map_inj sm_inj (leC_d h h')
 |agg l=>exact h.elim
 |tup l=>exact h.elim) (fun l=>rfl)
theorem cSs_e (l:List Sm):cSs.e l= .one (.d (.sl zSm (l.map Sm.r))):=rfl
theorem cSs_d (l:List Sm):cSs.d (.one (.d (.sl zSm (l.map Sm.r))))=some l:=codOf_le (e:=fun l:List Sm=>.one (.d (.sl zSm (l.map Sm.r)))) (leV_refl _)
def okB (n:Nat):Nat→List Sm→Prop
 |0,_=>False
 |m+1,l=>l.length≤5000∧∀s∈l,OkS n s∧okB n m s.th∧okB n m s.el
theorem okB_nil {n m:Nat} {l:List Sm} (h:okB n m l):okB n m []:=by
 cases m with
 |zero=>exact h.elim
 |succ m=>exact⟨Nat.zero_le _,fun s hs=>by cases hs⟩
def okF (f:Fn):Prop:=f.ps.length≤5000∧f.ls.length≤5000
end Go.Proofs.Ytjnnmindcbgjhab
namespace Go.Proofs.Ytjnnmindcbgjhab
open Go Go.Sy Go.RowKit
def kinL (nm:List UInt8):List Vr→Int
 |[]=>0
 |v::l=>if (v.s==nm)=true then (if v.p=true then 2 else 1) else kinL nm l
def kinF (f:Fn) (nm:List UInt8):Int:=kinL nm (f.ps++f.ls)
abbrev yc_kind (f:Fn) (nm:List UInt8):Prop:=okF f
abbrev yr_kind (f:Fn) (nm:List UInt8):SV:=.one (.v (.int .i64 (kinF f nm)))
noncomputable abbrev ya_kind:ArgC ((Fn)×(List UInt8)×Unit):=(acS (cFn) (acS (cStr) ac0))
abbrev yq_kind:Prop:=CallsY Try.prog 55 ya_kind (fun p:(Fn)×(List UInt8)×Unit=>yc_kind p.1 p.2.1) (fun p:(Fn)×(List UInt8)×Unit=>yr_kind p.1 p.2.1)
theorem yn_kind:∀p:(Fn)×(List UInt8)×Unit,((fun p:(Fn)×(List UInt8)×Unit=>yr_kind p.1 p.2.1) p).names=[]:=by intro p;first|rfl|exact ex_names _|exact cd_names _
set_option maxRecDepth 20000 in set_option maxHeartbeats 8000000 in
theorem y_kind:yq_kind:=by
 rintro ⟨f,nm,_u⟩ w fz xs hc hfz hl hx
 refine calls_toL Try.func55 rfl w fz [] [] ya_kind (fun p:(Fn)×(List UInt8)×Unit=>yr_kind p.1 p.2.1) _ xs hfz hl hx (Nat.le_of_ble_eq_true rfl) ?_
 clear hx hl hfz xs
 simp only[Try.f55]
 obtain⟨hc1,hc2⟩:=hc
 dsimp only at hc1 hc2
 simp only[↓eB,seval,go_sem,cFn_e,cFn_d,cEx_e,cEx_d,cEx_n,cCd_e,cCd_d,cCd_n,Fn.c,fn_eta,pairO_n,pairN_o,spFn_n,vr_map]
 refine⟨⟨fun q h=>(by cases h;rfl),stor_of _ vr_stor _,by omega,by omega⟩,⟨fun q h=>(by cases h;rfl),stor_of _ vr_stor _,by omega,by omega⟩,chk_ok (by kernel_rfl),?_⟩
 refine loop_ok (Y:=Nat) (fun i=>i≤(f.ps++f.ls).length∧kinL nm ((f.ps++f.ls).drop i)=kinF f nm)
  (fun i=>⟨[(1,true,.one (.v (.string (bs nm)))),(5,true,.one (.s 1000)),(6,true,.one (.v (.int .i64 (i:Int))))],[(1000,.vec 0 zVc ((f.ps++f.ls).map Vr.c))]⟩)
  (fun i=>(f.ps++f.ls).length-i) 0 ⟨Nat.zero_le _,rfl⟩ ?_ ?_
 ·refine to_with [.mv 12 1000] ?_;simp only[↓eB,seval,go_sem,rowsV.mv,rowsV.fn,zVc,List.map_append,List.flatMap_append]
 ·rintro i ⟨hi,hJ⟩
  refine vc_ok [] [] _ _ _ ?_
  have hsm:(f.ps++f.ls).length≤4294967296:=by simp only[List.length_append];omega
  generalize f.ps++f.ls=L at hi hJ hsm ⊢
  cases hx:L[i]? with
  |none=>
   have hi2:L.length≤i:=List.getElem?_eq_none_iff.1 hx
   have h1:=natI_ge hi2
   rw[List.drop_eq_nil_of_le hi2]at hJ
   have hR:kinF f nm=0:=hJ.symm
   simp only[↓eB,seval,go_sem,h1]
   refine ret_with [] ?_;simp only[↓eB,seval,go_sem,bne,yr_kind,hR]
  |some x=>
   have hlt:i<L.length:=(List.getElem?_eq_some_iff.1 hx).1
   have h1:=natI_lt hlt
   have h2:=natI_ltp hlt
   have h3:=vr_at hx
   have h4:=natI_succ hi hsm
   rw[drop_get hx]at hJ
   simp only[kinL]at hJ
   simp only[↓eB,seval,go_sem,h1,h2,h3,h4,zVc,Vr.c]
   simp only[impB,impN]
   refine⟨hlt,hlt,fun hb=>⟨hlt,hlt,fun hc=>?_,fun hc=>?_⟩,fun hb=>?_⟩
   ·rw[if_pos hb,if_pos hc]at hJ
    refine ret_with [] ?_;simp only[↓eB,seval,go_sem,bne,yr_kind,← hJ]
   ·rw[if_pos hb,if_neg (by rw[hc];decide)]at hJ
    refine ret_with [] ?_;simp only[↓eB,seval,go_sem,bne,yr_kind,← hJ]
   ·rw[if_neg (by rw[hb];decide)]at hJ
    refine⟨i+1,⟨hlt,hJ⟩,by omega,to_with [] ?_⟩
    simp only[↓eB,seval,go_sem,rowsV.fn]
noncomputable def yp_kind {X:Ctx} {w0:World}:Sy.Spec Try.prog X w0:=specD 55 Try.call55 ya_kind (fun p:(Fn)×(List UInt8)×Unit=>yc_kind p.1 p.2.1) (fun p:(Fn)×(List UInt8)×Unit=>yr_kind p.1 p.2.1) yn_kind y_kind
def ptrF (f:Fn):Ex→Bool
 | .nil=>false
 | .mk k _ s _ _=>k==1&&kinF f s==2
abbrev yc_pointer (f:Fn) (e:Ex):Prop:=okF f
abbrev yr_pointer (f:Fn) (e:Ex):SV:=.one (.v (.bool (ptrF f e)))
noncomputable abbrev ya_pointer:ArgC ((Fn)×(Ex)×Unit):=(acS (cFn) (acS (cEx) ac0))
abbrev yq_pointer:Prop:=CallsY Try.prog 56 ya_pointer (fun p:(Fn)×(Ex)×Unit=>yc_pointer p.1 p.2.1) (fun p:(Fn)×(Ex)×Unit=>yr_pointer p.1 p.2.1)
theorem yn_pointer:∀p:(Fn)×(Ex)×Unit,((fun p:(Fn)×(Ex)×Unit=>yr_pointer p.1 p.2.1) p).names=[]:=by intro p;first|rfl|exact ex_names _|exact cd_names _
set_option maxRecDepth 20000 in set_option maxHeartbeats 8000000 in
theorem y_pointer:yq_pointer:=by
 rintro ⟨f,e,_u⟩ w fz xs hc hfz hl hx
 refine calls_toL Try.func56 rfl w fz [yp_kind] [] ya_pointer (fun p:(Fn)×(Ex)×Unit=>yr_pointer p.1 p.2.1) _ xs hfz hl hx (Nat.le_of_ble_eq_true rfl) ?_
 clear hx hl hfz xs
 simp only[Try.f56]
 have hc1:okF f:=hc
 cases e with
 |nil=>
  simp only[↓eB,seval,go_sem,cFn_e,cFn_d,cEx_e,cEx_d,cEx_n,cCd_e,cCd_d,cCd_n,Fn.c,fn_eta,pairO_n,pairN_o,spFn_n,yp_kind,ex_nil]
  try simp only[impB,impN]
  repeat' first|exact ck|with_reducible apply And.intro|intro _
  all_goals first|exact hc1|(rename_i h;first|exact oI h|exact nah h)|(rename_i _ h _ g;exact sL h g)|decide|omega|(refine ret_with [] ?_;simp only[↓eB,seval,go_sem,bne,yr_pointer,ptrF])
 |mk k n s a b=>
  simp only[↓eB,seval,go_sem,cFn_e,cFn_d,cEx_e,cEx_d,cEx_n,cCd_e,cCd_d,cCd_n,Fn.c,fn_eta,pairO_n,pairN_o,spFn_n,yp_kind,ex_mk]
  try simp only[impB,impN]
  repeat' first|exact ck|with_reducible apply And.intro|intro _
  all_goals first|exact hc1|(rename_i h;first|exact oI h|exact nah h)|(rename_i _ h _ g;exact sL h g)|decide|omega|(refine ret_with [] ?_;simp only[↓eB,seval,go_sem,bne,yr_pointer,ptrF])
noncomputable def yp_pointer {X:Ctx} {w0:World}:Sy.Spec Try.prog X w0:=specD 56 Try.call56 ya_pointer (fun p:(Fn)×(Ex)×Unit=>yc_pointer p.1 p.2.1) (fun p:(Fn)×(Ex)×Unit=>yr_pointer p.1 p.2.1) yn_pointer y_pointer
def intF (f:Fn):Ex→Bool
 | .nil=>true
 | .mk k _ s a b=>if (k==1)=true then kinF f s != 2 else intF f a&&intF f b
def conF (f:Fn):Cd→Bool
 | .nil=>true
 | .mk k a b p q s=>if (k==9)=true then kinF f s==2 else intF f a&&intF f b&&conF f p&&conF f q
abbrev yc_ints (n:Nat) (f:Fn) (e:Ex):Prop:=okF f∧e.dp<n
abbrev yr_ints (n:Nat) (f:Fn) (e:Ex):SV:=.one (.v (.bool (intF f e)))
noncomputable abbrev ya_ints:ArgC ((Fn)×(Ex)×Unit):=(acS (cFn) (acS (cEx) ac0))
abbrev yq_ints (n:Nat):Prop:=CallsY Try.prog 57 ya_ints (fun p:(Fn)×(Ex)×Unit=>yc_ints n p.1 p.2.1) (fun p:(Fn)×(Ex)×Unit=>yr_ints n p.1 p.2.1)
theorem yn_ints (n:Nat):∀p:(Fn)×(Ex)×Unit,((fun p:(Fn)×(Ex)×Unit=>yr_ints n p.1 p.2.1) p).names=[]:=by intro p;first|rfl|exact ex_names _|exact cd_names _
noncomputable def yg_ints {X:Ctx} {w0:World} (n:Nat) (h:yq_ints n):Sy.Spec Try.prog X w0:=specD 57 Try.call57 ya_ints (fun p:(Fn)×(Ex)×Unit=>yc_ints n p.1 p.2.1) (fun p:(Fn)×(Ex)×Unit=>yr_ints n p.1 p.2.1) (yn_ints n) h
set_option maxRecDepth 20000 in set_option maxHeartbeats 8000000 in
theorem y_intsS (n:Nat) (hu:yq_ints n):yq_ints (n+1):=by
 rintro ⟨f,e,_u⟩ w fz xs hc hfz hl hx
 refine calls_toL Try.func57 rfl w fz [yp_kind,(yg_ints n hu)] [] ya_ints (fun p:(Fn)×(Ex)×Unit=>yr_ints (n+1) p.1 p.2.1) _ xs hfz hl hx (Nat.le_of_ble_eq_true rfl) ?_
 clear hx hl hfz xs
 simp only[Try.f57]
 obtain⟨hc1,hc2⟩:=hc
 dsimp only at hc1 hc2
 cases e with
 |nil=>
  simp only[↓eB,seval,go_sem,cFn_e,cFn_d,cEx_e,cEx_d,cEx_n,cCd_e,cCd_d,cCd_n,Fn.c,fn_eta,pairO_n,pairN_o,spFn_n,yp_kind,yg_ints,ex_nil]
  try simp only[impB,impN]
  repeat' first|exact ck|with_reducible apply And.intro|intro _
  all_goals first|exact hc1|(rename_i h;first|exact oI h|exact nah h)|(rename_i _ h _ g;exact sL h g)|decide|omega|(refine ret_with [] ?_;simp only[↓eB,seval,go_sem,bne,yr_ints,intF])
 |mk k n' s a b=>
  simp only[Ex.dp]at hc2
  cases hk:(k==1) with
  |true=>
   simp only[↓eB,seval,go_sem,cFn_e,cFn_d,cEx_e,cEx_d,cEx_n,cCd_e,cCd_d,cCd_n,Fn.c,fn_eta,pairO_n,pairN_o,spFn_n,yp_kind,yg_ints,ex_mk,hk]
   try simp only[impB,impN]
   repeat' first|exact ck|with_reducible apply And.intro|intro _
   all_goals first|exact hc1|(rename_i h;first|exact oI h|exact nah h)|(rename_i _ h _ g;exact sL h g)|decide|omega|(refine ret_with [] ?_;simp only[↓eB,seval,go_sem,bne,yr_ints,intF,hk])
  |false=>
   simp only[↓eB,seval,go_sem,cFn_e,cFn_d,cEx_e,cEx_d,cEx_n,cCd_e,cCd_d,cCd_n,Fn.c,fn_eta,pairO_n,pairN_o,spFn_n,yp_kind,yg_ints,ex_mk,hk]
   try simp only[impB,impN]
   repeat' first|exact ck|with_reducible apply And.intro|intro _
   all_goals first|exact hc1|(rename_i h;first|exact oI h|exact nah h)|(rename_i _ h _ g;exact sL h g)|decide|omega|(refine ret_with [] ?_;simp only[↓eB,seval,go_sem,bne,yr_ints,intF,hk])
theorem y_ints:∀n:Nat,yq_ints n
 |0=>by
  rintro ⟨f,e,_u⟩ w fz xs hc hfz hl hx
  exact absurd hc.2 (Nat.not_lt_zero _)
 |n+1=>y_intsS n (y_ints n)
abbrev yc_conds (n:Nat) (f:Fn) (e:Cd):Prop:=okF f∧e.dp<n
abbrev yr_conds (n:Nat) (f:Fn) (e:Cd):SV:=.one (.v (.bool (conF f e)))
noncomputable abbrev ya_conds:ArgC ((Fn)×(Cd)×Unit):=(acS (cFn) (acS (cCd) ac0))
abbrev yq_conds (n:Nat):Prop:=CallsY Try.prog 58 ya_conds (fun p:(Fn)×(Cd)×Unit=>yc_conds n p.1 p.2.1) (fun p:(Fn)×(Cd)×Unit=>yr_conds n p.1 p.2.1)
theorem yn_conds (n:Nat):∀p:(Fn)×(Cd)×Unit,((fun p:(Fn)×(Cd)×Unit=>yr_conds n p.1 p.2.1) p).names=[]:=by intro p;first|rfl|exact ex_names _|exact cd_names _
noncomputable def yg_conds {X:Ctx} {w0:World} (n:Nat) (h:yq_conds n):Sy.Spec Try.prog X w0:=specD 58 Try.call58 ya_conds (fun p:(Fn)×(Cd)×Unit=>yc_conds n p.1 p.2.1) (fun p:(Fn)×(Cd)×Unit=>yr_conds n p.1 p.2.1) (yn_conds n) h
set_option maxRecDepth 20000 in set_option maxHeartbeats 8000000 in
theorem y_condsS (n:Nat) (hu:yq_conds n):yq_conds (n+1):=by
 rintro ⟨f,e,_u⟩ w fz xs hc hfz hl hx
 refine calls_toL Try.func58 rfl w fz [yp_kind,(yg_ints n (y_ints n)),(yg_conds n hu)] [] ya_conds (fun p:(Fn)×(Cd)×Unit=>yr_conds (n+1) p.1 p.2.1) _ xs hfz hl hx (Nat.le_of_ble_eq_true rfl) ?_
 clear hx hl hfz xs
 simp only[Try.f58]
 obtain⟨hc1,hc2⟩:=hc
 dsimp only at hc1 hc2
 cases e with
 |nil=>
  simp only[↓eB,seval,go_sem,cFn_e,cFn_d,cEx_e,cEx_d,cEx_n,cCd_e,cCd_d,cCd_n,Fn.c,fn_eta,pairO_n,pairN_o,spFn_n,yp_kind,yg_ints,yg_conds,cd_nil]
  try simp only[impB,impN]
  repeat' first|exact ck|with_reducible apply And.intro|intro _
  all_goals first|exact hc1|(rename_i h;first|exact oI h|exact nah h)|(rename_i _ h _ g;exact sL h g)|decide|omega|(refine ret_with [] ?_;simp only[↓eB,seval,go_sem,bne,yr_conds,conF])
 |mk k a b p q s=>
  simp only[Cd.dp]at hc2
  cases hk:(k==9) with
  |true=>
   simp only[↓eB,seval,go_sem,cFn_e,cFn_d,cEx_e,cEx_d,cEx_n,cCd_e,cCd_d,cCd_n,Fn.c,fn_eta,pairO_n,pairN_o,spFn_n,yp_kind,yg_ints,yg_conds,cd_mk,hk]
   try simp only[impB,impN]
   repeat' first|exact ck|with_reducible apply And.intro|intro _
   all_goals first|exact hc1|(rename_i h;first|exact oI h|exact nah h)|(rename_i _ h _ g;exact sL h g)|decide|omega|(refine ret_with [] ?_;simp only[↓eB,seval,go_sem,bne,yr_conds,conF,hk])
  |false=>
   simp only[↓eB,seval,go_sem,cFn_e,cFn_d,cEx_e,cEx_d,cEx_n,cCd_e,cCd_d,cCd_n,Fn.c,fn_eta,pairO_n,pairN_o,spFn_n,yp_kind,yg_ints,yg_conds,cd_mk,hk]
   try simp only[impB,impN]
   repeat' first|exact ck|with_reducible apply And.intro|intro _
   all_goals first|exact hc1|(rename_i h;first|exact oI h|exact nah h)|(rename_i _ h _ g;exact sL h g)|decide|omega|(refine ret_with [] ?_;simp only[↓eB,seval,go_sem,bne,yr_conds,conF,hk])
theorem y_conds:∀n:Nat,yq_conds n
 |0=>by
  rintro ⟨f,e,_u⟩ w fz xs hc hfz hl hx
  exact absurd hc.2 (Nat.not_lt_zero _)
 |n+1=>y_condsS n (y_conds n)
end Go.Proofs.Ytjnnmindcbgjhab
