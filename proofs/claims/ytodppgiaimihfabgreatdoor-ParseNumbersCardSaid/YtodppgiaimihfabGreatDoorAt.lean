/- Rows of arguments, variables, statements. No conditions but those in each statement. -/
import Derived.Test.YtodppgiaimihfabGreatDoorGs
import Derived.Test.YtodppgiaimihfabGreatDoorTy2
set_option linter.unusedVariables false
set_option linter.unusedSimpArgs false
namespace Go.Proofs.YtodppgiaimihfabGreatDoor
open Go Go.Sy Go.RowKit
def Ar.c (a:Ar):List C:=[.v (.bool a.p),.v (.string (bs a.s)),exC a.e]
def zAc:List C:=[.v (.bool false),.v (.string (bs [])),.v (.pointer none)]
theorem zAc_t:zT zAc=none:=rfl
attribute [go_sem] zAc_t
def Vr.c (v:Vr):List C:=[.v (.string (bs v.s)),.v (.bool v.p)]
def zVc:List C:=[.v (.string (bs [])),.v (.bool false)]
theorem zVc_t:zT zVc=none:=rfl
attribute [go_sem] zVc_t
def Sm.k:Sm→Int| .mk k _ _ _ _ _ _ _ _ _=>k
def Sm.x:Sm→List UInt8| .mk _ x _ _ _ _ _ _ _ _=>x
def Sm.y:Sm→List UInt8| .mk _ _ y _ _ _ _ _ _ _=>y
def Sm.e:Sm→Ex| .mk _ _ _ e _ _ _ _ _ _=>e
def Sm.f:Sm→Ex| .mk _ _ _ _ f _ _ _ _ _=>f
def Sm.cd:Sm→Cd| .mk _ _ _ _ _ c _ _ _ _=>c
def Sm.ar:Sm→List Ar| .mk _ _ _ _ _ _ a _ _ _=>a
def Sm.th:Sm→List Sm| .mk _ _ _ _ _ _ _ t _ _=>t
def Sm.el:Sm→List Sm| .mk _ _ _ _ _ _ _ _ e _=>e
def Sm.no:Sm→Int| .mk _ _ _ _ _ _ _ _ _ n=>n
theorem sm_r (s:Sm):s.r=[dI s.k,dS s.x,dS s.y,s.e.d,s.f.d,s.cd.d,.sl zAr (s.ar.map Ar.r),.sl zSm (s.th.map Sm.r),.sl zSm (s.el.map Sm.r),dI s.no]:=by
 cases s;simp only[Sm.r,rs_map,Sm.k,Sm.x,Sm.y,Sm.e,Sm.f,Sm.cd,Sm.ar,Sm.th,Sm.el,Sm.no]
def Sm.c (s:Sm):List C:=[.v (.int .i64 s.k),.v (.string (bs s.x)),.v (.string (bs s.y)),exC s.e,exC s.f,cdC s.cd,.d (.sl zAr (s.ar.map Ar.r)),.d (.sl zSm (s.th.map Sm.r)),.d (.sl zSm (s.el.map Sm.r)),.v (.int .i64 s.no)]
def zSc:List C:=[.v (.int .i64 0),.v (.string (bs [])),.v (.string (bs [])),.v (.pointer none),.v (.pointer none),.v (.pointer none),.v (.slice none 0 0),.v (.slice none 0 0),.v (.slice none 0 0),.v (.int .i64 0)]
theorem zSc_t:zT zSc=none:=rfl
attribute [go_sem] zSc_t
def Fn.c (f:Fn):List C:=[.v (.string (bs f.name)),.d (.sl zVr (f.ps.map Vr.r)),.d (.sl zVr (f.ls.map Vr.r)),.d (.sl zSm (f.body.map Sm.r))]
abbrev fn0:Fn:=⟨[],[],[],[]⟩
section
variable {A:Type} {l:List A}
structure RowsD (f:A→List C) (g:A→List D) (n:Nat):Prop where
 nm:∀a,∀c∈f a,C.names c=[]
 st:∀a,∀c∈f a,C.stor c=true
 td:∀a,toDs (f a)=some (g a)
 len:∀a,(f a).length=n
theorem mv_id (k t:Nat) {c:C} (h:c.names=[]) (h2:C.stor c=true):mvC k t c=c:=by
 cases c<;>first|rfl|(simp[C.stor]at h2;done)|(simp[C.names]at h;done)|(rename_i f caps;simp only[C.names]at h;simp[mvC,h])
theorem fz_id (k:Nat) (z:List D) (es:List (List D)) {c:C} (h:c.names=[]) (h2:C.stor c=true):fzC k z es c=c:=by
 cases c<;>first|rfl|(simp[C.stor]at h2;done)|(simp[C.names]at h;done)|(rename_i f caps;simp only[C.names]at h;simp[fzC,h])
theorem map_idC {σ:C→C} {r:List C} (h:∀c∈r,σ c=c):r.map σ=r:=by
 induction r with
 |nil=>rfl
 |cons c r ih=>rw[List.map_cons,h c (List.mem_cons_self ..),ih fun c hc=>h c (List.mem_cons_of_mem _ hc)]
variable {f:A→List C} {g:A→List D} {n:Nat} (hR:RowsD f g n)
include hR
theorem RowsD.fn:List.flatMap (fun r=>List.flatMap C.names r) (l.map f)=[]:=flN_of f hR.nm l
theorem RowsD.ds:toDss (l.map f)=some (l.map g):=toDss_of f hR.td l
theorem RowsD.ds1 (r:List C):toDss (l.map f++[r])=(toDs r).map fun d=>l.map g++[d]:=by
 induction l with
 |nil=>simp only[List.map_nil,List.nil_append,toDss];cases toDs r<;>rfl
 |cons a l ih=>simp only[List.map_cons,List.cons_append,toDss,hR.td a,ih];cases toDs r<;>rfl
theorem RowsD.mv (k t:Nat):(l.map f).map (fun r=>r.map (mvC k t))=l.map f:=map_of f (fun a=>map_idC fun c hc=>mv_id k t (hR.nm a c hc) (hR.st a c hc)) l
theorem RowsD.fz (k:Nat) (z:List D) (es:List (List D)):(l.map f).map (fun r=>r.map (fzC k z es))=l.map f:=map_of f (fun a=>map_idC fun c hc=>fz_id k z es (hR.nm a c hc) (hR.st a c hc)) l
theorem RowsD.stor:rowsStor (l.map f):=stor_of f hR.st l
theorem RowsD.cl:closB (l.map f)=true:=closB_of f hR.nm l
end
theorem rowsA:RowsD Ar.c Ar.r 3:=by
 refine⟨fun a c hc=>?_,fun a c hc=>?_,fun a=>?_,fun a=>rfl⟩
 ·simp only[Ar.c,List.mem_cons,List.not_mem_nil,or_false]at hc;rcases hc with rfl|rfl|rfl<;>first|rfl|exact ex_names _
 ·simp only[Ar.c,List.mem_cons,List.not_mem_nil,or_false]at hc;rcases hc with rfl|rfl|rfl<;>first|rfl|exact ex_stor _
 ·simp only[Ar.c,toDs,toD,ex_toD,Ar.r]
theorem rowsV:RowsD Vr.c Vr.r 2:=by
 refine⟨fun a c hc=>?_,fun a c hc=>?_,fun a=>?_,fun a=>rfl⟩
 ·simp only[Vr.c,List.mem_cons,List.not_mem_nil,or_false]at hc;rcases hc with rfl|rfl<;>rfl
 ·simp only[Vr.c,List.mem_cons,List.not_mem_nil,or_false]at hc;rcases hc with rfl|rfl<;>rfl
 ·simp only[Vr.c,toDs,toD,Vr.r]
theorem rowsS:RowsD Sm.c Sm.r 10:=by
 refine⟨fun a c hc=>?_,fun a c hc=>?_,fun a=>?_,fun a=>rfl⟩
 ·simp only[Sm.c,List.mem_cons,List.not_mem_nil,or_false]at hc;rcases hc with rfl|rfl|rfl|rfl|rfl|rfl|rfl|rfl|rfl|rfl<;>first|rfl|exact ex_names _|exact cd_names _
 ·simp only[Sm.c,List.mem_cons,List.not_mem_nil,or_false]at hc;rcases hc with rfl|rfl|rfl|rfl|rfl|rfl|rfl|rfl|rfl|rfl<;>first|rfl|exact ex_stor _|exact cd_stor _
 ·rw[sm_r];simp only[Sm.c,toDs,toD,ex_toD,cd_toD]
end Go.Proofs.YtodppgiaimihfabGreatDoor
namespace Go.Proofs.YtodppgiaimihfabGreatDoor
open Go Go.Sy Go.RowKit
theorem leC_d {c:C} {z z':List D} {es es':List (List D)} (h:leC c (.d (.sl z es))) (h':leC c (.d (.sl z' es'))):es=es':=by
 rcases h with rfl|⟨h1,h2⟩
 ·rcases h' with h|⟨h3,h4⟩
  ·simp only[C.d.injEq,D.sl.injEq]at h;exact h.2
  ·cases h3
 ·obtain rfl:=nilS_eq h1
  rcases h' with h|⟨h3,h4⟩
  ·cases h
  ·obtain⟨_,he⟩:=emS_eq h2
   obtain⟨_,he'⟩:=emS_eq h4
   simp only[C.d.injEq,D.sl.injEq]at he he'
   rw[he.2,he'.2]
theorem leC_v {c:C} {x y:Value} (h:leC c (.v x)) (h':leC c (.v y)):x=y:=by
 rcases h with rfl|⟨_,h2⟩
 ·rcases h' with h|⟨_,h4⟩
  ·simpa using h
  ·cases h4
 ·cases h2
theorem leC_o {c:C} {d d':D} (hd:∀z,oD d≠.d (.sl z [])) (hd':∀z,oD d'≠.d (.sl z [])) (h:leC c (oD d)) (h':leC c (oD d')):oD d=oD d':=by
 rcases h with rfl|⟨_,h2⟩
 ·rcases h' with h|⟨_,h4⟩
  ·exact h
  ·obtain⟨z,h⟩:=emS_eq h4;exact absurd h (hd' z)
 ·obtain⟨z,h⟩:=emS_eq h2;exact absurd h (hd z)
theorem oD_inj {a b:D} (h:oD a=oD b):a=b:=by cases a<;>cases b<;>simp_all [oD]
theorem exC_inj {a b:Ex} (h:exC a=exC b):a=b:=exd_inj (oD_inj h)
theorem cdC_inj {a b:Cd} (h:cdC a=cdC b):a=b:=cdd_inj (oD_inj h)
theorem ex_nsl (e:Ex):∀z,oD e.d≠.d (.sl z []):=by intro z;cases e<;>simp[Ex.d,oD]
theorem cd_nsl (e:Cd):∀z,oD e.d≠.d (.sl z []):=by intro z;cases e<;>simp[Cd.d,oD]
theorem pairO_n {A B:Type} (x:Option A):pairO x (none:Option B)=none:=by cases x<;>rfl
theorem pairN_o {A B:Type} (x:Option B):pairO (none:Option A) x=none:=rfl
theorem spFn_n {A:Type} (Cd:A→Prop) (F:A→SV):spFn (none:Option A) Cd F=none:=rfl
def Ex.dp:Ex→Nat
 | .nil=>0
 | .mk _ _ _ a b=>max a.dp b.dp+1
def Cd.dp:Cd→Nat
 | .nil=>0
 | .mk _ a b p q _=>max (max a.dp b.dp) (max p.dp q.dp)+1
theorem sm_uq (v:SV) (a b:Sm) (h:leV v (.agg a.c)) (h':leV v (.agg b.c)):a=b:=by
 cases v with
 |one c=>exact h.elim
 |tup l=>exact h.elim
 |agg l=>
  obtain⟨k,x,y,e,f,cd,ar,th,el,no⟩:=a
  obtain⟨k',x',y',e',f',cd',ar',th',el',no'⟩:=b
  match l,h,h' with
  |[c0,c1,c2,c3,c4,c5,c6,c7,c8,c9],⟨h0,h1,h2,h3,h4,h5,h6,h7,h8,h9,_⟩,⟨g0,g1,g2,g3,g4,g5,g6,g7,g8,g9,_⟩=>
   have e0:=leC_v h0 g0
   have e1:=leC_v h1 g1
   have e2:=leC_v h2 g2
   have e9:=leC_v h9 g9
   simp only[Value.string.injEq,Value.int.injEq,true_and]at e0 e1 e2 e9
   have k1:=bs_inj e1
   have k2:=bs_inj e2
   have k3:=exC_inj (leC_o (ex_nsl _) (ex_nsl _) h3 g3)
   have k4:=exC_inj (leC_o (ex_nsl _) (ex_nsl _) h4 g4)
   have k5:=cdC_inj (leC_o (cd_nsl _) (cd_nsl _) h5 g5)
   have k6:=map_inj ar_inj (leC_d h6 g6)
   have k7:=map_inj sm_inj (leC_d h7 g7)
   have k8:=map_inj sm_inj (leC_d h8 g8)
   simp only[Sm.k,Sm.x,Sm.y,Sm.e,Sm.f,Sm.cd,Sm.ar,Sm.th,Sm.el,Sm.no]at e0 k1 k2 k3 k4 k5 k6 k7 k8 e9
   subst e0;subst k1;subst k2;subst k3;subst k4;subst k5;subst k6;subst k7;subst k8;subst e9;rfl
noncomputable def cSm:Cod Sm:=codOf (fun s=>.agg s.c) sm_uq (fun s=>List.flatMap_eq_nil_iff.2 (rowsS.nm s))
theorem cSm_e (s:Sm):cSm.e s= .agg s.c:=rfl
theorem cSm_d' (s:Sm):cSm.d (.agg s.c)=some s:=codOf_le (e:=fun s:Sm=>.agg s.c) (leV_refl _)
theorem cSm_d (k no:Int) (x y:List UInt8) (e f:Ex) (cd:Cd) (ar:List Ar) (th el:List Sm):cSm.d (.agg [.v (.int .i64 k),.v (.string (bs x)),.v (.string (bs y)),exC e,exC f,cdC cd,.d (.sl zAr (ar.map Ar.r)),.d (.sl zSm (th.map Sm.r)),.d (.sl zSm (el.map Sm.r)),.v (.int .i64 no)])=some (.mk k x y e f cd ar th el no):=cSm_d' (.mk k x y e f cd ar th el no)
structure OkS (n:Nat) (s:Sm):Prop where
 e:s.e.dp<n
 f:s.f.dp<n
 c:s.cd.dp<n
 a:∀a∈s.ar,a.e.dp<n
 l:s.ar.length≤5000
noncomputable def cSs:Cod (List Sm):=codOf (fun l=>.one (.d (.sl zSm (l.map Sm.r)))) (fun v a b h h'=>by
 cases v with
 |one c=>exact map_inj sm_inj (leC_d h h')
 |agg l=>exact h.elim
 |tup l=>exact h.elim) (fun l=>rfl)
theorem cSs_e (l:List Sm):cSs.e l= .one (.d (.sl zSm (l.map Sm.r))):=rfl
theorem cSs_d (l:List Sm):cSs.d (.one (.d (.sl zSm (l.map Sm.r))))=some l:=codOf_le (e:=fun l:List Sm=>.one (.d (.sl zSm (l.map Sm.r)))) (leV_refl _)
end Go.Proofs.YtodppgiaimihfabGreatDoor
namespace Go.Proofs.YtodppgiaimihfabGreatDoor
open Go Go.Sy Go.RowKit
theorem smr_ac {l:List Sm} {i:Nat} {x:Sm} (h:l[i]?=some x) (z:List D):(l.map Sm.r).getD i z=x.r:=by simp[List.getD,h]
theorem zSm_ln:zSm.length=10:=rfl
end Go.Proofs.YtodppgiaimihfabGreatDoor
namespace Go.Proofs.YtodppgiaimihfabGreatDoor
open Go Go.Sy Go.RowKit
abbrev smallB (l:List UInt8):Prop:=l.length≤4294967296
def letB (b:Int):Bool:=decide (97≤b)&&decide (b≤122)||(decide (65≤b)&&decide (b≤90))||b==95
def digB (b:Int):Bool:=decide (48≤b)&&decide (b≤57)
abbrev chI (l:List UInt8) (i:Nat):Int:=((l.getD i 0).toNat:Int)
def idB (b:Int):Bool:=letB b||digB b
def cTok (x:Tok):List C:=[.v (.int .i64 x.k),.v (.string (bs x.t)),.v (.int .i64 x.p)]
def dTok (x:Tok):List D:=[.v (.int .i64 x.k),.v (.string (bs x.t)),.v (.int .i64 x.p)]
def zTok:List C:=[.v (.int .i64 0),.v (.string ByteArray.empty),.v (.int .i64 0)]
theorem zTok_t:zT zTok=none:=rfl
attribute [go_sem] zTok_t
def zTokD:List D:=[.v (.int .i64 0),.v (.string ByteArray.empty),.v (.int .i64 0)]
theorem chN_tok (u:Nat) (z:List C) (l:List Tok):chNames (.vec u z (l.map cTok))=[]:=chN_of cTok (by intro a c hc;simp only[cTok,List.mem_cons,List.not_mem_nil,or_false]at hc;rcases hc with rfl|rfl|rfl<;>rfl) u z l
theorem flN_tok (l:List Tok):List.flatMap (fun r=>List.flatMap C.names r) (l.map cTok)=[]:=chN_tok 0 [] l
theorem toDss_tok (l:List Tok):toDss (l.map cTok)=some (l.map dTok):=toDss_of cTok (fun _=>rfl) l
theorem mvC_tok (k t:Nat) (l:List Tok):(l.map cTok).map (fun r=>r.map (mvC k t))=l.map cTok:=map_of cTok (fun _=>rfl) l
def toksV (r:List Tok×Int×Int):SV:=.tup [.inl (.d (.sl zTokD (r.1.map dTok))),.inl (.v (.int .i64 r.2.1)),.inl (.v (.int .i64 r.2.2))]
def oneB (l:List UInt8) (c:Int):Bool:=l.any fun b=>((b.toNat:Nat):Int)==c
def blB (c:Int):Bool:=c==32||c==9||c==13||c==10
def nlB (c:Int):Bool:=!(c==10)
def dgF:List UInt8→Int→Bool→Int×Bool
 |[],n,g=>(n,g)
 |b::r,n,g=>if digB (b.toNat:Int)=true then (if decide (922337203685477580<n)=true then dgF r n true else dgF r (IntKind.u64.wrap (IntKind.u64.wrap (10*n)+IntKind.u64.wrap (IntKind.u8.wrap ((b.toNat:Int)-48)))) g) else (n,g)
def greB (l:List UInt8):Bool:=(dgF l 0 false).2||decide (9223372036854775807<(dgF l 0 false).1)
def twoB (s:List UInt8) (i:Nat):Bool:=decide (((i+2:Nat):Int)≤(s.length:Int))&&((s.drop i).take 2==[61,61]||(s.drop i).take 2==[33,61]||(s.drop i).take 2==[60,61]||(s.drop i).take 2==[62,61]||(s.drop i).take 2==[38,38]||(s.drop i).take 2==[124,124])
abbrev signs:List UInt8:=[61,60,62,43,45,42,47,37,38,33,40,41,123,125,91,93,44,59]
def rxF (s:List UInt8):Nat→Nat→List Tok→List Tok×Int×Int
 |0,_,out=>(out,0,0)
 |f+1,i,out=>
  if s.length≤i then (out,0,0)
  else if blB (chI s i)=true then rxF s f (i+1) out
  else if (chI s i==35)=true then rxF s f (i+spanN nlB (s.drop i)) out
  else if letB (chI s i)=true then (if decide (32<((spanN idB (s.drop i):Nat):Int))=true then ([],(i:Int),53) else rxF s f (i+spanN idB (s.drop i)) (out++[⟨0,(s.drop i).take (spanN idB (s.drop i)),(i:Int)⟩]))
  else if digB (chI s i)=true then
   (
    if greB (s.drop i)=true then ([],(i:Int),53)
    else if (decide (((i+spanN digB (s.drop i):Nat):Int)<(s.length:Int))&&letB (chI s (i+spanN digB (s.drop i)))||(chI s i==48&&decide (1<((spanN digB (s.drop i):Nat):Int))))=true then ([],(i:Int),50)
    else rxF s f (i+spanN digB (s.drop i)) (out++[⟨1,(s.drop i).take (spanN digB (s.drop i)),(i:Int)⟩]))
  else if twoB s i=true then rxF s f (i+2) (out++[⟨2,(s.drop i).take 2,(i:Int)⟩])
  else if oneB signs (chI s i)=true then rxF s f (i+1) (out++[⟨2,(s.drop i).take 1,(i:Int)⟩])
  else ([],(i:Int),50)
def rxT (s:List UInt8):List Tok×Int×Int:=if decide (4096<(s.length:Int))=true then ([],0,53) else rxF s s.length 0 []
theorem and_l {a b:Bool} (h:(a&&b)=true):a=true:=by cases a<;>simp_all
end Go.Proofs.YtodppgiaimihfabGreatDoor
namespace Go.Proofs.YtodppgiaimihfabGreatDoor
open Go Go.Sy Go.RowKit
end Go.Proofs.YtodppgiaimihfabGreatDoor
namespace Go.Proofs.YtodppgiaimihfabGreatDoor
open Go Go.Sy Go.RowKit
abbrev w64i (n:Int):Int:=IntKind.i64.wrap n
def tk (p:Pr):Tok:=p.l.getD p.i.toNat tk0
def isT (t:List UInt8) (p:Pr):Bool:=p.e==0&&decide (p.i<(p.l.length:Int))&&(tk p).k != 1&&(tk p).t==t
def okI (p:Pr):Prop:=0≤p.i∧p.i≤(p.l.length:Int)∧p.l.length≤4096
theorem okI0 {p:Pr} (h:okI p):0≤p.i:=h.1
def wrds:List (List UInt8):=[[102,110],[118,97,114],[112,116,114],[105,102],[101,108,115,101],[119,104,105,108,101],[114,101,116,117,114,110],[97,115,115,101,114,116],[110,117,108,108],[99,101,108,108],[97,114,114,97,121]]
def wordB (s:List UInt8):Bool:=wrds.any (·==s)
def cS (s:List UInt8):List C:=[.v (.string (bs s))]
def numW:List UInt8→Int→Int
 |[],n=>n
 |b::l,n=>numW l (w64i (w64i (10*n)+w64i (IntKind.u8.wrap ((b.toNat:Int)-48))))
def nameB (p:Pr):Bool:=p.e==0&&decide (p.i<(p.l.length:Int))&&(tk p).k==0&&!wordB (tk p).t
def failP (c:Int) (p:Pr):Pr:=if (p.e==0)=true then { p with e:=c,at':=if decide (p.i<(p.l.length:Int))=true then (tk p).p else p.en } else p
end Go.Proofs.YtodppgiaimihfabGreatDoor
namespace Go.Proofs.YtodppgiaimihfabGreatDoor
open Go Go.Sy Go.RowKit
end Go.Proofs.YtodppgiaimihfabGreatDoor
