/- Rows of arguments, variables, statements. No conditions but those in each statement. -/
import Derived.Test.YtlaggppdgoknjaaGreatDoorGs
set_option linter.unusedVariables false
set_option linter.unusedSimpArgs false
namespace Go.Proofs.YtlaggppdgoknjaaGreatDoor
open Go Go.Sy Go.RowKit
def Ar.c (a:Ar):List C:=[.v (.bool a.p),.v (.string (bs a.s)),exC a.e]
def zAc:List C:=[.v (.bool false),.v (.string (bs [])),.v (.pointer none)]
theorem zAc_t:zT zAc=none:=rfl
attribute [go_sem] zAc_t
def Vr.c (v:Vr):List C:=[.v (.string (bs v.s)),.v (.bool v.p)]
def zVc:List C:=[.v (.string (bs [])),.v (.bool false)]
theorem zVc_t:zT zVc=none:=rfl
attribute [go_sem] zVc_t
def Sm.k:Sm→Int| .mk k _ _ _ _ _ _ _ _ _=>k
def Sm.x:Sm→List UInt8| .mk _ x _ _ _ _ _ _ _ _=>x
def Sm.y:Sm→List UInt8| .mk _ _ y _ _ _ _ _ _ _=>y
def Sm.e:Sm→Ex| .mk _ _ _ e _ _ _ _ _ _=>e
def Sm.f:Sm→Ex| .mk _ _ _ _ f _ _ _ _ _=>f
def Sm.cd:Sm→Cd| .mk _ _ _ _ _ c _ _ _ _=>c
def Sm.ar:Sm→List Ar| .mk _ _ _ _ _ _ a _ _ _=>a
def Sm.th:Sm→List Sm| .mk _ _ _ _ _ _ _ t _ _=>t
def Sm.el:Sm→List Sm| .mk _ _ _ _ _ _ _ _ e _=>e
def Sm.no:Sm→Int| .mk _ _ _ _ _ _ _ _ _ n=>n
theorem sm_r (s:Sm):s.r=[dI s.k,dS s.x,dS s.y,s.e.d,s.f.d,s.cd.d,.sl zAr (s.ar.map Ar.r),.sl zSm (s.th.map Sm.r),.sl zSm (s.el.map Sm.r),dI s.no]:=by
 cases s;simp only[Sm.r,rs_map,Sm.k,Sm.x,Sm.y,Sm.e,Sm.f,Sm.cd,Sm.ar,Sm.th,Sm.el,Sm.no]
def Sm.c (s:Sm):List C:=[.v (.int .i64 s.k),.v (.string (bs s.x)),.v (.string (bs s.y)),exC s.e,exC s.f,cdC s.cd,.d (.sl zAr (s.ar.map Ar.r)),.d (.sl zSm (s.th.map Sm.r)),.d (.sl zSm (s.el.map Sm.r)),.v (.int .i64 s.no)]
def zSc:List C:=[.v (.int .i64 0),.v (.string (bs [])),.v (.string (bs [])),.v (.pointer none),.v (.pointer none),.v (.pointer none),.v (.slice none 0 0),.v (.slice none 0 0),.v (.slice none 0 0),.v (.int .i64 0)]
theorem zSc_t:zT zSc=none:=rfl
attribute [go_sem] zSc_t
def Fn.c (f:Fn):List C:=[.v (.string (bs f.name)),.d (.sl zVr (f.ps.map Vr.r)),.d (.sl zVr (f.ls.map Vr.r)),.d (.sl zSm (f.body.map Sm.r))]
abbrev fn0:Fn:=⟨[],[],[],[]⟩
section
variable {A:Type} {l:List A}
structure RowsD (f:A→List C) (g:A→List D) (n:Nat):Prop where
 nm:∀a,∀c∈f a,C.names c=[]
 st:∀a,∀c∈f a,C.stor c=true
 td:∀a,toDs (f a)=some (g a)
 len:∀a,(f a).length=n
theorem mv_id (k t:Nat) {c:C} (h:c.names=[]) (h2:C.stor c=true):mvC k t c=c:=by
 cases c<;>first|rfl|(simp[C.stor]at h2;done)|(simp[C.names]at h;done)|(rename_i f caps;simp only[C.names]at h;simp[mvC,h])
theorem fz_id (k:Nat) (z:List D) (es:List (List D)) {c:C} (h:c.names=[]) (h2:C.stor c=true):fzC k z es c=c:=by
 cases c<;>first|rfl|(simp[C.stor]at h2;done)|(simp[C.names]at h;done)|(rename_i f caps;simp only[C.names]at h;simp[fzC,h])
theorem map_idC {σ:C→C} {r:List C} (h:∀c∈r,σ c=c):r.map σ=r:=by
 induction r with
 |nil=>rfl
 |cons c r ih=>rw[List.map_cons,h c (List.mem_cons_self ..),ih fun c hc=>h c (List.mem_cons_of_mem _ hc)]
variable {f:A→List C} {g:A→List D} {n:Nat} (hR:RowsD f g n)
include hR
theorem RowsD.fn:List.flatMap (fun r=>List.flatMap C.names r) (l.map f)=[]:=flN_of f hR.nm l
theorem RowsD.ds:toDss (l.map f)=some (l.map g):=toDss_of f hR.td l
theorem RowsD.ds1 (r:List C):toDss (l.map f++[r])=(toDs r).map fun d=>l.map g++[d]:=by
 induction l with
 |nil=>simp only[List.map_nil,List.nil_append,toDss];cases toDs r<;>rfl
 |cons a l ih=>simp only[List.map_cons,List.cons_append,toDss,hR.td a,ih];cases toDs r<;>rfl
theorem RowsD.mv (k t:Nat):(l.map f).map (fun r=>r.map (mvC k t))=l.map f:=map_of f (fun a=>map_idC fun c hc=>mv_id k t (hR.nm a c hc) (hR.st a c hc)) l
theorem RowsD.fz (k:Nat) (z:List D) (es:List (List D)):(l.map f).map (fun r=>r.map (fzC k z es))=l.map f:=map_of f (fun a=>map_idC fun c hc=>fz_id k z es (hR.nm a c hc) (hR.st a c hc)) l
theorem RowsD.stor:rowsStor (l.map f):=stor_of f hR.st l
theorem RowsD.cl:closB (l.map f)=true:=closB_of f hR.nm l
end
theorem rowsA:RowsD Ar.c Ar.r 3:=by
 refine⟨fun a c hc=>?_,fun a c hc=>?_,fun a=>?_,fun a=>rfl⟩
 ·simp only[Ar.c,List.mem_cons,List.not_mem_nil,or_false]at hc;rcases hc with rfl|rfl|rfl<;>first|rfl|exact ex_names _
 ·simp only[Ar.c,List.mem_cons,List.not_mem_nil,or_false]at hc;rcases hc with rfl|rfl|rfl<;>first|rfl|exact ex_stor _
 ·simp only[Ar.c,toDs,toD,ex_toD,Ar.r]
theorem rowsV:RowsD Vr.c Vr.r 2:=by
 refine⟨fun a c hc=>?_,fun a c hc=>?_,fun a=>?_,fun a=>rfl⟩
 ·simp only[Vr.c,List.mem_cons,List.not_mem_nil,or_false]at hc;rcases hc with rfl|rfl<;>rfl
 ·simp only[Vr.c,List.mem_cons,List.not_mem_nil,or_false]at hc;rcases hc with rfl|rfl<;>rfl
 ·simp only[Vr.c,toDs,toD,Vr.r]
theorem rowsS:RowsD Sm.c Sm.r 10:=by
 refine⟨fun a c hc=>?_,fun a c hc=>?_,fun a=>?_,fun a=>rfl⟩
 ·simp only[Sm.c,List.mem_cons,List.not_mem_nil,or_false]at hc;rcases hc with rfl|rfl|rfl|rfl|rfl|rfl|rfl|rfl|rfl|rfl<;>first|rfl|exact ex_names _|exact cd_names _
 ·simp only[Sm.c,List.mem_cons,List.not_mem_nil,or_false]at hc;rcases hc with rfl|rfl|rfl|rfl|rfl|rfl|rfl|rfl|rfl|rfl<;>first|rfl|exact ex_stor _|exact cd_stor _
 ·rw[sm_r];simp only[Sm.c,toDs,toD,ex_toD,cd_toD]
end Go.Proofs.YtlaggppdgoknjaaGreatDoor
namespace Go.Proofs.YtlaggppdgoknjaaGreatDoor
open Go Go.Sy Go.RowKit
theorem leC_d {c:C} {z z':List D} {es es':List (List D)} (h:leC c (.d (.sl z es))) (h':leC c (.d (.sl z' es'))):es=es':=by
 rcases h with rfl|⟨h1,h2⟩
 ·rcases h' with h|⟨h3,h4⟩
  ·simp only[C.d.injEq,D.sl.injEq]at h;exact h.2
  ·cases h3
 ·obtain rfl:=nilS_eq h1
  rcases h' with h|⟨h3,h4⟩
  ·cases h
  ·obtain⟨_,he⟩:=emS_eq h2
   obtain⟨_,he'⟩:=emS_eq h4
   simp only[C.d.injEq,D.sl.injEq]at he he'
   rw[he.2,he'.2]
theorem leC_v {c:C} {x y:Value} (h:leC c (.v x)) (h':leC c (.v y)):x=y:=by
 rcases h with rfl|⟨_,h2⟩
 ·rcases h' with h|⟨_,h4⟩
  ·simpa using h
  ·cases h4
 ·cases h2
theorem leC_o {c:C} {d d':D} (hd:∀z,oD d≠.d (.sl z [])) (hd':∀z,oD d'≠.d (.sl z [])) (h:leC c (oD d)) (h':leC c (oD d')):oD d=oD d':=by
 rcases h with rfl|⟨_,h2⟩
 ·rcases h' with h|⟨_,h4⟩
  ·exact h
  ·obtain⟨z,h⟩:=emS_eq h4;exact absurd h (hd' z)
 ·obtain⟨z,h⟩:=emS_eq h2;exact absurd h (hd z)
theorem oD_inj {a b:D} (h:oD a=oD b):a=b:=by cases a<;>cases b<;>simp_all [oD]
theorem exC_inj {a b:Ex} (h:exC a=exC b):a=b:=exd_inj (oD_inj h)
theorem cdC_inj {a b:Cd} (h:cdC a=cdC b):a=b:=cdd_inj (oD_inj h)
theorem ex_nsl (e:Ex):∀z,oD e.d≠.d (.sl z []):=by intro z;cases e<;>simp[Ex.d,oD]
theorem cd_nsl (e:Cd):∀z,oD e.d≠.d (.sl z []):=by intro z;cases e<;>simp[Cd.d,oD]
noncomputable def cEx:Cod Ex:=codOf (fun e=>.one (exC e)) (fun v a b h h'=>by
 cases v with
 |one c=>exact exC_inj (leC_o (ex_nsl a) (ex_nsl b) h h')
 |agg l=>exact h.elim
 |tup l=>exact h.elim) (fun e=>ex_names e)
theorem cEx_e (e:Ex):cEx.e e= .one (exC e):=rfl
theorem cEx_d (e:Ex):cEx.d (.one (exC e))=some e:=codOf_le (e:=fun e=>.one (exC e)) (leV_refl _)
theorem cEx_n:cEx.d (.one (.v (.pointer none)))=some .nil:=cEx_d .nil
noncomputable def cCd:Cod Cd:=codOf (fun e=>.one (cdC e)) (fun v a b h h'=>by
 cases v with
 |one c=>exact cdC_inj (leC_o (cd_nsl a) (cd_nsl b) h h')
 |agg l=>exact h.elim
 |tup l=>exact h.elim) (fun e=>cd_names e)
theorem cCd_e (e:Cd):cCd.e e= .one (cdC e):=rfl
theorem cCd_d (e:Cd):cCd.d (.one (cdC e))=some e:=codOf_le (e:=fun e=>.one (cdC e)) (leV_refl _)
theorem cCd_n:cCd.d (.one (.v (.pointer none)))=some .nil:=cCd_d .nil
theorem fn_uq (v:SV) (a b:Fn) (h:leV v (.agg a.c)) (h':leV v (.agg b.c)):a=b:=by
 cases v with
 |one c=>exact h.elim
 |tup l=>exact h.elim
 |agg l=>
  obtain⟨n,ps,ls,bd⟩:=a
  obtain⟨n',ps',ls',bd'⟩:=b
  match l,h,h' with
  |[c0,c1,c2,c3],⟨h0,h1,h2,h3,_⟩,⟨g0,g1,g2,g3,_⟩=>
   have e0:=leC_v h0 g0
   simp only[Value.string.injEq]at e0
   have k0:=bs_inj e0
   have k1:=map_inj vr_inj (leC_d h1 g1)
   have k2:=map_inj vr_inj (leC_d h2 g2)
   have k3:=map_inj sm_inj (leC_d h3 g3)
   simp only at k0 k1 k2 k3
   subst k0;subst k1;subst k2;subst k3;rfl
noncomputable def cFn:Cod Fn:=codOf (fun f=>.agg f.c) fn_uq (fun f=>rfl)
theorem cFn_e (f:Fn):cFn.e f= .agg f.c:=rfl
theorem cFn_d (n:List UInt8) (ps ls:List Vr) (bd:List Sm):cFn.d (.agg [.v (.string (bs n)),.d (.sl zVr (ps.map Vr.r)),.d (.sl zVr (ls.map Vr.r)),.d (.sl zSm (bd.map Sm.r))])=some ⟨n,ps,ls,bd⟩:=codOf_le (e:=fun f:Fn=>.agg f.c) (a:=⟨n,ps,ls,bd⟩) (leV_refl _)
theorem pairO_n {A B:Type} (x:Option A):pairO x (none:Option B)=none:=by cases x<;>rfl
theorem pairN_o {A B:Type} (x:Option B):pairO (none:Option A) x=none:=rfl
theorem spFn_n {A:Type} (Cd:A→Prop) (F:A→SV):spFn (none:Option A) Cd F=none:=rfl
def Ex.dp:Ex→Nat
 | .nil=>0
 | .mk _ _ _ a b=>max a.dp b.dp+1
def Cd.dp:Cd→Nat
 | .nil=>0
 | .mk _ a b p q _=>max (max a.dp b.dp) (max p.dp q.dp)+1
theorem sm_uq (v:SV) (a b:Sm) (h:leV v (.agg a.c)) (h':leV v (.agg b.c)):a=b:=by
 cases v with
 |one c=>exact h.elim
 |tup l=>exact h.elim
 |agg l=>
  obtain⟨k,x,y,e,f,cd,ar,th,el,no⟩:=a
  obtain⟨k',x',y',e',f',cd',ar',th',el',no'⟩:=b
  match l,h,h' with
  |[c0,c1,c2,c3,c4,c5,c6,c7,c8,c9],⟨h0,h1,h2,h3,h4,h5,h6,h7,h8,h9,_⟩,⟨g0,g1,g2,g3,g4,g5,g6,g7,g8,g9,_⟩=>
   have e0:=leC_v h0 g0
   have e1:=leC_v h1 g1
   have e2:=leC_v h2 g2
   have e9:=leC_v h9 g9
   simp only[Value.string.injEq,Value.int.injEq,true_and]at e0 e1 e2 e9
   have k1:=bs_inj e1
   have k2:=bs_inj e2
   have k3:=exC_inj (leC_o (ex_nsl _) (ex_nsl _) h3 g3)
   have k4:=exC_inj (leC_o (ex_nsl _) (ex_nsl _) h4 g4)
   have k5:=cdC_inj (leC_o (cd_nsl _) (cd_nsl _) h5 g5)
   have k6:=map_inj ar_inj (leC_d h6 g6)
   have k7:=map_inj sm_inj (leC_d h7 g7)
   have k8:=map_inj sm_inj (leC_d h8 g8)
   simp only[Sm.k,Sm.x,Sm.y,Sm.e,Sm.f,Sm.cd,Sm.ar,Sm.th,Sm.el,Sm.no]at e0 k1 k2 k3 k4 k5 k6 k7 k8 e9
   subst e0;subst k1;subst k2;subst k3;subst k4;subst k5;subst k6;subst k7;subst k8;subst e9;rfl
noncomputable def cSm:Cod Sm:=codOf (fun s=>.agg s.c) sm_uq (fun s=>List.flatMap_eq_nil_iff.2 (rowsS.nm s))
theorem cSm_e (s:Sm):cSm.e s= .agg s.c:=rfl
theorem cSm_d' (s:Sm):cSm.d (.agg s.c)=some s:=codOf_le (e:=fun s:Sm=>.agg s.c) (leV_refl _)
theorem cSm_d (k no:Int) (x y:List UInt8) (e f:Ex) (cd:Cd) (ar:List Ar) (th el:List Sm):cSm.d (.agg [.v (.int .i64 k),.v (.string (bs x)),.v (.string (bs y)),exC e,exC f,cdC cd,.d (.sl zAr (ar.map Ar.r)),.d (.sl zSm (th.map Sm.r)),.d (.sl zSm (el.map Sm.r)),.v (.int .i64 no)])=some (.mk k x y e f cd ar th el no):=cSm_d' (.mk k x y e f cd ar th el no)
def fl10:List C:=[.v (.bool false),.v (.bool false),.v (.bool false),.v (.bool false),.v (.bool false),.v (.bool false),.v (.bool false),.v (.bool false),.v (.bool false),.v (.bool false)]
structure OkS (n:Nat) (s:Sm):Prop where
 e:s.e.dp<n
 f:s.f.dp<n
 c:s.cd.dp<n
 a:∀a∈s.ar,a.e.dp<n
 l:s.ar.length≤5000
noncomputable def cSs:Cod (List Sm):=codOf (fun l=>.one (.d (.sl zSm (l.map Sm.r)))) (fun v a b h h'=>by
 cases v with
 |one c=>exact map_inj sm_inj (leC_d h h')
 |agg l=>exact h.elim
 |tup l=>exact h.elim) (fun l=>rfl)
theorem cSs_e (l:List Sm):cSs.e l= .one (.d (.sl zSm (l.map Sm.r))):=rfl
theorem cSs_d (l:List Sm):cSs.d (.one (.d (.sl zSm (l.map Sm.r))))=some l:=codOf_le (e:=fun l:List Sm=>.one (.d (.sl zSm (l.map Sm.r)))) (leV_refl _)
def okB (n:Nat):Nat→List Sm→Prop
 |0,_=>False
 |m+1,l=>l.length≤5000∧∀s∈l,OkS n s∧okB n m s.th∧okB n m s.el
def okF (f:Fn):Prop:=f.ps.length≤5000∧f.ls.length≤5000
end Go.Proofs.YtlaggppdgoknjaaGreatDoor
