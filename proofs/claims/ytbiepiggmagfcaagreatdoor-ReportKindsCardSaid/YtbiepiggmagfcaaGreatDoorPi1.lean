/- Numbers as text. Conditions: the numbers are of 64 bits; the table of powers of ten is laid. -/
import Derived.Test.YtbiepiggmagfcaaGreatDoorPb4
import Derived.Shelf.Strconv.Itoa4
import Derived.Test.YtbiepiggmagfcaaGreatDoorAs
set_option linter.unusedVariables false
set_option linter.unusedSimpArgs false
namespace Go.Proofs
open Go.Shelf
 shelf_lay LaysM.n173 Nm 173 at Tryz as Tryz.laysM173
 shelf_lay LaysM.n171 Nm 171 at Tryz as Tryz.laysM171
end Go.Proofs
namespace Go.Proofs.YtbiepiggmagfcaaGreatDoor
open Go Go.Sy Go.Shelf Go.RowKit
def powT (w:World):Prop:=Lib.TabIs Tryz.prog w "internal/strconv.uint64pow10" .u64 Lib.pow10Tab
def powB (b:Nat):Prop:=Tryz.prog.globalNamed "internal/strconv.uint64pow10" = some b
theorem powT_keptB (w w':World) (h:powT w) (hk:∀b,powB b→hp w' b=hp w b):powT w':=by
 unfold powT Lib.TabIs World.var? at*
 obtain⟨g,hg,h⟩:=Option.bind_eq_some_iff.1 h
 rw[hg,Option.bind_some]
 have:=hk g hg
 rw[show w'.heap[g]?=w.heap[g]? from this]
 exact h
theorem powT_size (w:World) (b:Nat) (h:powT w) (hb:powB b):b<w.heap.size:=by
 unfold powT Lib.TabIs World.var? at h
 rw[hb,Option.bind_some]at h
 cases e:w.heap[b]? with
 |none=>rw[e]at h;cases h
 |some o=>exact(Array.getElem?_eq_some_iff.1 e).1
abbrev w64 (n:Int):Prop := -9223372036854775808≤n∧n≤9223372036854775807
theorem below_grow (w:World) (q:Nat) (os:Array Obj):Below w.heap.size w (Sort.grow (w.drewN q) os):=
 ⟨rfl,rfl,rfl,by first|(simp[Sort.grow];done)|(simp[Sort.grow];omega),fun i hi=>by
  show ((w.drewN q).heap++os)[i]?=_
  rw[Array.getElem?_append_left (by show i<w.heap.size;omega)]
  rfl⟩
def itT (n:Int):List UInt8:=Lib.itoa n
theorem c_FormatInt (n:Int) (h:w64 n) (w:World) (ht:powT w):Calls Tryz.prog 60 #[.int .i64 n,.int .i64 10] w fun e w'=>e= .returned (.string (bs (itT n)))∧Below w.heap.size w w':=
 (Any.strconv_FormatInt_10 Tryz.laysM173 n h.1 h.2 w ht).mono fun e w' ⟨h1,k,os,h2⟩=>⟨h1,by subst h2;exact below_grow w k os⟩
theorem f_FormatInt (p:Int×Int×Unit) (w:World) (ht:powT w) (hc:w64 p.1∧p.2.1=10):Calls Tryz.prog 60 #[.int .i64 p.1,.int .i64 p.2.1] w fun e w'=>e= .returned (.string (bs (itT p.1)))∧Below w.heap.size w w':=by
 obtain⟨n,b,u⟩:=p
 obtain⟨h1,h2⟩:=hc
 dsimp only at h1 h2 ⊢
 subst h2
 exact c_FormatInt n h1 w ht
abbrev yc_FormatInt (n:Int) (b:Int):Prop:=w64 n∧b=10
abbrev yr_FormatInt (n:Int) (b:Int):SV:=SV.one (.v (.string (bs (itT n))))
theorem y_FormatInt:CallsG Tryz.prog 60 powT (acS (cInt .i64) (acS (cInt .i64) ac0)) (fun p:(Int×(Int×Unit))=>yc_FormatInt p.1 p.2.1) (fun p:(Int×(Int×Unit))=>yr_FormatInt p.1 p.2.1):=of_plainG _ _ _ _ (fun p=>[.int .i64 p.1,.int .i64 p.2.1]) (fun p=>.string (bs (itT p.1))) (fun _=>rfl) (fun _=>rfl) (fun _=>rfl) f_FormatInt
theorem yn_FormatInt:∀p:(Int×(Int×Unit)),((fun p:(Int×(Int×Unit))=>yr_FormatInt p.1 p.2.1) p).names=[]:=by intro p;first|rfl|simp[SV.names,C.names]
noncomputable def yp_FormatInt {X:Ctx} {w0:World} (hG:StaysN X w0 powT powB):Sy.Spec Tryz.prog X w0:=specG 60 Tryz.call60 powT (acS (cInt .i64) (acS (cInt .i64) ac0)) (fun p:(Int×(Int×Unit))=>yc_FormatInt p.1 p.2.1) (fun p:(Int×(Int×Unit))=>yr_FormatInt p.1 p.2.1) yn_FormatInt y_FormatInt hG.stays
theorem f_Itoa (p:Int×Unit) (w:World) (ht:powT w) (hc:w64 p.1):Calls Tryz.prog 50 #[.int .i64 p.1] w fun e w'=>e= .returned (.string (bs (itT p.1)))∧Below w.heap.size w w':=
 (Any.strconv_Itoa Tryz.laysM171 p.1 hc.1 hc.2 w ht).mono fun e w' ⟨h1,k,os,h2⟩=>⟨h1,by subst h2;exact below_grow w k os⟩
abbrev yc_Itoa (n:Int):Prop:=w64 n
abbrev yr_Itoa (n:Int):SV:=SV.one (.v (.string (bs (itT n))))
theorem y_Itoa:CallsG Tryz.prog 50 powT (acS (cInt .i64) ac0) (fun p:(Int×Unit)=>yc_Itoa p.1) (fun p:(Int×Unit)=>yr_Itoa p.1):=of_plainG _ _ _ _ (fun p=>[.int .i64 p.1]) (fun p=>.string (bs (itT p.1))) (fun _=>rfl) (fun _=>rfl) (fun _=>rfl) f_Itoa
theorem yn_Itoa:∀p:(Int×Unit),((fun p:(Int×Unit)=>yr_Itoa p.1) p).names=[]:=by intro p;first|rfl|simp[SV.names,C.names]
noncomputable def yp_Itoa {X:Ctx} {w0:World} (hG:StaysN X w0 powT powB):Sy.Spec Tryz.prog X w0:=specG 50 Tryz.call50 powT (acS (cInt .i64) ac0) (fun p:(Int×Unit)=>yc_Itoa p.1) (fun p:(Int×Unit)=>yr_Itoa p.1) yn_Itoa y_Itoa hG.stays
end Go.Proofs.YtbiepiggmagfcaaGreatDoor
namespace Go.Proofs.YtbiepiggmagfcaaGreatDoor
open Go Go.Sy Go.RowKit
theorem leC_d {c:C} {z z':List D} {es es':List (List D)} (h:leC c (.d (.sl z es))) (h':leC c (.d (.sl z' es'))):es=es':=by
 rcases h with rfl|⟨h1,h2⟩
 ·rcases h' with h|⟨h3,h4⟩
  ·simp only[C.d.injEq,D.sl.injEq]at h;exact h.2
  ·cases h3
 ·obtain rfl:=nilS_eq h1
  rcases h' with h|⟨h3,h4⟩
  ·cases h
  ·obtain⟨_,he⟩:=emS_eq h2
   obtain⟨_,he'⟩:=emS_eq h4
   simp only[C.d.injEq,D.sl.injEq]at he he'
   rw[he.2,he'.2]
theorem leC_v {c:C} {x y:Value} (h:leC c (.v x)) (h':leC c (.v y)):x=y:=by
 rcases h with rfl|⟨_,h2⟩
 ·rcases h' with h|⟨_,h4⟩
  ·simpa using h
  ·cases h4
 ·cases h2
theorem leC_o {c:C} {d d':D} (hd:∀z,oD d≠.d (.sl z [])) (hd':∀z,oD d'≠.d (.sl z [])) (h:leC c (oD d)) (h':leC c (oD d')):oD d=oD d':=by
 rcases h with rfl|⟨_,h2⟩
 ·rcases h' with h|⟨_,h4⟩
  ·exact h
  ·obtain⟨z,h⟩:=emS_eq h4;exact absurd h (hd' z)
 ·obtain⟨z,h⟩:=emS_eq h2;exact absurd h (hd z)
theorem oD_inj {a b:D} (h:oD a=oD b):a=b:=by cases a<;>cases b<;>simp_all [oD]
theorem exC_inj {a b:Ex} (h:exC a=exC b):a=b:=exd_inj (oD_inj h)
theorem cdC_inj {a b:Cd} (h:cdC a=cdC b):a=b:=cdd_inj (oD_inj h)
theorem ex_nsl (e:Ex):∀z,oD e.d≠.d (.sl z []):=by intro z;cases e<;>simp[Ex.d,oD]
theorem cd_nsl (e:Cd):∀z,oD e.d≠.d (.sl z []):=by intro z;cases e<;>simp[Cd.d,oD]
noncomputable def cEx:Cod Ex:=codOf (fun e=>.one (exC e)) (fun v a b h h'=>by
 cases v with
 |one c=>exact exC_inj (leC_o (ex_nsl a) (ex_nsl b) h h')
 |agg l=>exact h.elim
 |tup l=>exact h.elim) (fun e=>ex_names e)
theorem cEx_e (e:Ex):cEx.e e= .one (exC e):=rfl
theorem cEx_d (e:Ex):cEx.d (.one (exC e))=some e:=codOf_le (e:=fun e=>.one (exC e)) (leV_refl _)
theorem cEx_n:cEx.d (.one (.v (.pointer none)))=some .nil:=cEx_d .nil
noncomputable def cCd:Cod Cd:=codOf (fun e=>.one (cdC e)) (fun v a b h h'=>by
 cases v with
 |one c=>exact cdC_inj (leC_o (cd_nsl a) (cd_nsl b) h h')
 |agg l=>exact h.elim
 |tup l=>exact h.elim) (fun e=>cd_names e)
theorem cCd_e (e:Cd):cCd.e e= .one (cdC e):=rfl
theorem cCd_d (e:Cd):cCd.d (.one (cdC e))=some e:=codOf_le (e:=fun e=>.one (cdC e)) (leV_refl _)
theorem cCd_n:cCd.d (.one (.v (.pointer none)))=some .nil:=cCd_d .nil
theorem fn_uq (v:SV) (a b:Fn) (h:leV v (.agg a.c)) (h':leV v (.agg b.c)):a=b:=by
 cases v with
 |one c=>exact h.elim
 |tup l=>exact h.elim
 |agg l=>
  obtain⟨n,ps,ls,bd⟩:=a
  obtain⟨n',ps',ls',bd'⟩:=b
  match l,h,h' with
  |[c0,c1,c2,c3],⟨h0,h1,h2,h3,_⟩,⟨g0,g1,g2,g3,_⟩=>
   have e0:=leC_v h0 g0
   simp only[Value.string.injEq]at e0
   have k0:=bs_inj e0
   have k1:=map_inj vr_inj (leC_d h1 g1)
   have k2:=map_inj vr_inj (leC_d h2 g2)
   have k3:=map_inj sm_inj (leC_d h3 g3)
   simp only at k0 k1 k2 k3
   subst k0;subst k1;subst k2;subst k3;rfl
noncomputable def cFn:Cod Fn:=codOf (fun f=>.agg f.c) fn_uq (fun f=>rfl)
theorem cFn_e (f:Fn):cFn.e f= .agg f.c:=rfl
theorem cFn_d (n:List UInt8) (ps ls:List Vr) (bd:List Sm):cFn.d (.agg [.v (.string (bs n)),.d (.sl zVr (ps.map Vr.r)),.d (.sl zVr (ls.map Vr.r)),.d (.sl zSm (bd.map Sm.r))])=some ⟨n,ps,ls,bd⟩:=codOf_le (e:=fun f:Fn=>.agg f.c) (a:=⟨n,ps,ls,bd⟩) (leV_refl _)
theorem fn_eta (f:Fn):(⟨f.name,f.ps,f.ls,f.body⟩:Fn)=f:=rfl
theorem vr_map (l:List Vr):(l.map Vr.r).map (fun r=>r.map oD)=l.map Vr.c:=by rw[List.map_map];rfl
theorem vr_at {l:List Vr} {i:Nat} {x:Vr} (h:l[i]?=some x):(l.map Vr.c).getD i [.v (.string (bs [])),.v (.bool false)]=x.c:=by simp[List.getD,h]
theorem vr_stor (a:Vr):∀c∈a.c,C.stor c=true:=by
 intro c hc;simp only[Vr.c,List.mem_cons,List.not_mem_nil,or_false]at hc;rcases hc with rfl|rfl<;>rfl
theorem pairO_n {A B:Type} (x:Option A):pairO x (none:Option B)=none:=by cases x<;>rfl
theorem pairN_o {A B:Type} (x:Option B):pairO (none:Option A) x=none:=rfl
theorem spFn_n {A:Type} (Cd:A→Prop) (F:A→SV):spFn (none:Option A) Cd F=none:=rfl
def Ex.dp:Ex→Nat
 | .nil=>0
 | .mk _ _ _ a b=>max a.dp b.dp+1
def Cd.dp:Cd→Nat
 | .nil=>0
 | .mk _ a b p q _=>max (max a.dp b.dp) (max p.dp q.dp)+1
theorem sm_uq (v:SV) (a b:Sm) (h:leV v (.agg a.c)) (h':leV v (.agg b.c)):a=b:=by
 cases v with
 |one c=>exact h.elim
 |tup l=>exact h.elim
 |agg l=>
  obtain⟨k,x,y,e,f,cd,ar,th,el,no⟩:=a
  obtain⟨k',x',y',e',f',cd',ar',th',el',no'⟩:=b
  match l,h,h' with
  |[c0,c1,c2,c3,c4,c5,c6,c7,c8,c9],⟨h0,h1,h2,h3,h4,h5,h6,h7,h8,h9,_⟩,⟨g0,g1,g2,g3,g4,g5,g6,g7,g8,g9,_⟩=>
   have e0:=leC_v h0 g0
   have e1:=leC_v h1 g1
   have e2:=leC_v h2 g2
   have e9:=leC_v h9 g9
   simp only[Value.string.injEq,Value.int.injEq,true_and]at e0 e1 e2 e9
   have k1:=bs_inj e1
   have k2:=bs_inj e2
   have k3:=exC_inj (leC_o (ex_nsl _) (ex_nsl _) h3 g3)
   have k4:=exC_inj (leC_o (ex_nsl _) (ex_nsl _) h4 g4)
   have k5:=cdC_inj (leC_o (cd_nsl _) (cd_nsl _) h5 g5)
   have k6:=map_inj ar_inj (leC_d h6 g6)
   have k7:=map_inj sm_inj (leC_d h7 g7)
   have k8:=map_inj sm_inj (leC_d h8 g8)
   simp only[Sm.k,Sm.x,Sm.y,Sm.e,Sm.f,Sm.cd,Sm.ar,Sm.th,Sm.el,Sm.no]at e0 k1 k2 k3 k4 k5 k6 k7 k8 e9
   subst e0;subst k1;subst k2;subst k3;subst k4;subst k5;subst k6;subst k7;subst k8;subst e9;rfl
noncomputable def cSm:Cod Sm:=codOf (fun s=>.agg s.c) sm_uq (fun s=>List.flatMap_eq_nil_iff.2 (rowsS.nm s))
theorem cSm_e (s:Sm):cSm.e s= .agg s.c:=rfl
theorem cSm_d' (s:Sm):cSm.d (.agg s.c)=some s:=codOf_le (e:=fun s:Sm=>.agg s.c) (leV_refl _)
theorem cSm_d (k no:Int) (x y:List UInt8) (e f:Ex) (cd:Cd) (ar:List Ar) (th el:List Sm):cSm.d (.agg [.v (.int .i64 k),.v (.string (bs x)),.v (.string (bs y)),exC e,exC f,cdC cd,.d (.sl zAr (ar.map Ar.r)),.d (.sl zSm (th.map Sm.r)),.d (.sl zSm (el.map Sm.r)),.v (.int .i64 no)])=some (.mk k x y e f cd ar th el no):=cSm_d' (.mk k x y e f cd ar th el no)
theorem cEx_dp (k n:Int) (s:List UInt8) (a b:Ex):cEx.d (.one (.d (.pt (some [.v (.int .i64 k),.v (.int .i64 n),.v (.string (bs s)),a.d,b.d]))))=some (.mk k n s a b):=cEx_d (.mk k n s a b)
theorem tup_sm (s:Sm) (b:Bool):(SV.tup [.inr s.c,.inl (.v (.bool b))]).names=[]:=by
 have h:pNames (.inr s.c)=[]:=List.flatMap_eq_nil_iff.2 (rowsS.nm s)
 simp only[SV.names,List.flatMap_cons,List.flatMap_nil,h];rfl
theorem ar_map (l:List Ar):(l.map Ar.r).map (fun r=>r.map oD)=l.map Ar.c:=by rw[List.map_map];rfl
theorem ar_at {l:List Ar} {i:Nat} {x:Ar} (h:l[i]?=some x):(l.map Ar.c).getD i [.v (.bool false),.v (.string (bs [])),.v (.pointer none)]=x.c:=by simp[List.getD,h]
def fl4:List C:=[.v (.bool false),.v (.bool false),.v (.bool false),.v (.bool false)]
def fl10:List C:=[.v (.bool false),.v (.bool false),.v (.bool false),.v (.bool false),.v (.bool false),.v (.bool false),.v (.bool false),.v (.bool false),.v (.bool false),.v (.bool false)]
structure OkS (n:Nat) (s:Sm):Prop where
 e:s.e.dp<n
 f:s.f.dp<n
 c:s.cd.dp<n
 a:∀a∈s.ar,a.e.dp<n
 l:s.ar.length≤5000
noncomputable def cSs:Cod (List Sm):=codOf (fun l=>.one (.d (.sl zSm (l.map Sm.r)))) (fun v a b h h'=>by
 cases v with
 |one c=>exact map_inj sm_inj (leC_d h h')
 |agg l=>exact h.elim
 |tup l=>exact h.elim) (fun l=>rfl)
theorem cSs_e (l:List Sm):cSs.e l= .one (.d (.sl zSm (l.map Sm.r))):=rfl
theorem cSs_d (l:List Sm):cSs.d (.one (.d (.sl zSm (l.map Sm.r))))=some l:=codOf_le (e:=fun l:List Sm=>.one (.d (.sl zSm (l.map Sm.r)))) (leV_refl _)
def okB (n:Nat):Nat→List Sm→Prop
 |0,_=>False
 |m+1,l=>l.length≤5000∧∀s∈l,OkS n s∧okB n m s.th∧okB n m s.el
theorem okB_nil {n m:Nat} {l:List Sm} (h:okB n m l):okB n m []:=by
 cases m with
 |zero=>exact h.elim
 |succ m=>exact⟨Nat.zero_le _,fun s hs=>by cases hs⟩
end Go.Proofs.YtbiepiggmagfcaaGreatDoor
