/- Conditions and arguments, in plain words. No conditions but those in each statement. -/
import Derived.Test.YtodppgiaimihfabDoorPm
import Derived.Test.YtodppgiaimihfabDoorAs
set_option linter.unusedVariables false
set_option linter.unusedSimpArgs false
namespace Go.Proofs.YtodppgiaimihfabDoor
open Go Go.Sy Go.RowKit
def tkA (p:Pr) (k:Int):Tok:=p.l.getD k.toNat tk0
def nullB (p:Pr):Bool:=nameB p&&decide (w64i (p.i+2)<(p.l.length:Int))&&(tkA p (w64i (p.i+2))).t==[110,117,108,108]&&((tkA p (w64i (p.i+1))).t==[61,61]||(tkA p (w64i (p.i+1))).t==[33,61])
def adv3 (p:Pr):Pr:={ p with i:=w64i (p.i+3) }
def cmpO:List (List UInt8):=[[61,61],[33,61],[60],[60,61],[62],[62,61]]
def cmpF (q:Pr) (a:Ex):List (List UInt8)→Int→R Cd
 |[],_=>(.nil,failP 51 q)
 |t::l,k=>if isT t q=true then (.mk k a (exS (adv q)).1 .nil .nil [],(exS (adv q)).2) else cmpF q a l (k+1)
def andL (nt:Pr→R Cd):Nat→Cd→Pr→R Cd
 |0,c,p=>(c,p)
 |k+1,c,p=>if isT [38,38] p=true then andL nt k (.mk 6 .nil .nil c (nt (adv p)).1 []) (nt (adv p)).2 else (c,p)
def andW (nt:Pr→R Cd) (p:Pr):R Cd:=andL nt p.l.length (nt p).1 (nt p).2
def conL (nt:Pr→R Cd):Nat→Cd→Pr→R Cd
 |0,c,p=>(c,p)
 |k+1,c,p=>if isT [124,124] p=true then conL nt k (.mk 7 .nil .nil c (andW nt (adv p)).1 []) (andW nt (adv p)).2 else (c,p)
def conW (nt:Pr→R Cd) (p:Pr):R Cd:=conL nt p.l.length (andW nt p).1 (andW nt p).2
def nulC (p:Pr):Cd:=if ((tkA p (w64i (p.i+1))).t==[33,61])=true then .mk 8 .nil .nil (.mk 9 .nil .nil .nil .nil (tk p).t) .nil [] else .mk 9 .nil .nil .nil .nil (tk p).t
def notF:Nat→Pr→R Cd
 |0,p=>(.nil,p)
 |f+1,p=>
  if isT [33] p=true then
   (if opnB p=true then (.mk 8 .nil .nil (notF f (adv (opnP p))).1 .nil [],shut (notF f (adv (opnP p))).2) else (.nil,opnP p))
  else if isT [40] p=true then
   (if opnB p=true then ((conW (notF f) (adv (opnP p))).1,shut (wanP [41] (conW (notF f) (adv (opnP p))).2)) else (.nil,opnP p))
  else if nullB p=true then (nulC p,adv3 p)
  else cmpF (exS p).2 (exS p).1 cmpO 0
abbrev cdS:Pr→R Cd:=conW (notF 41)
def argL:Nat→List Ar→Pr→R (List Ar)
 |0,_,p=>([],p)
 |k+1,l,p=>
  if (p.e==0)=true then
   (if isT [41] (exS p).2=true then (l++[⟨false,[],(exS p).1⟩],adv (exS p).2) else argL k (l++[⟨false,[],(exS p).1⟩]) (wanP [44] (exS p).2))
  else ([],p)
def argW (p:Pr):R (List Ar):=if isT [41] p=true then ([],adv p) else argL (p.l.length+1) [] p
theorem exS_nx {p:Pr} (h:okP p):Nx p (exS p).2:=sumW_nx (un_nx 41) p h
theorem isT_adv {t:List UInt8} {p:Pr} (h:okP p) (hi:isT t p=true):Nx p (adv p):=adv_nx h (isT_e hi).2 (isT_e hi).1
theorem null_e {p:Pr} (h:okP p) (hb:nullB p=true):p.e=0∧p.i+2<(p.l.length:Int)∧w64i (p.i+3)=p.i+3∧w64i (p.i+2)=p.i+2∧w64i (p.i+1)=p.i+1:=by
 unfold nullB at hb
 simp only[Bool.and_eq_true,decide_eq_true_eq]at hb
 obtain⟨h1,h2,h3,_⟩:=h
 have e2:w64i (p.i+2)=p.i+2:=by unfold w64i;rw[wrap_i64 (by omega) (by omega)]
 rw[e2]at hb
 refine⟨(nameB_e hb.1.1.1).1,hb.1.1.2,?_,e2,?_⟩<;>unfold w64i<;>rw[wrap_i64 (by omega) (by omega)]
theorem adv3_nx {p:Pr} (h:okP p) (hb:nullB p=true):Nx p (adv3 p):=by
 obtain⟨e1,e2,e3,_⟩:=null_e h hb
 obtain⟨h1,h2,h3,h4⟩:=h
 have e:(adv3 p).i=p.i+3:=e3
 exact⟨⟨by rw[e];omega,by rw[e];show p.i+3≤(p.l.length:Int);omega,h3,h4⟩,rfl,rfl,by rw[e];omega,rfl,fun h=>absurd e1 h⟩
theorem cmpF_nx (a:Ex):∀(l:List (List UInt8)) (k:Int) (q:Pr),okP q→Nx q (cmpF q a l k).2
 |[],k,q,h=>fail_nx 51 h
 |t::l,k,q,h=>by
  simp only[cmpF]
  split
  ·rename_i hi
   have h1:=isT_adv h hi
   exact h1.trans (exS_nx h1.ok)
  ·exact cmpF_nx a l (k+1) q h
theorem andL_nx {u:Pr→R Cd} (hu:∀p,okP p→Nx p (u p).2):∀(k:Nat) (a:Cd) (p:Pr),okP p→Nx p (andL u k a p).2
 |0,a,p,h=>.refl h
 |k+1,a,p,h=>by
  simp only[andL]
  split
  ·rename_i hi
   have h1:=isT_adv h hi
   have h2:=hu _ h1.ok
   exact(h1.trans h2).trans (andL_nx hu k _ _ h2.ok)
  ·exact .refl h
theorem andW_nx {u:Pr→R Cd} (hu:∀p,okP p→Nx p (u p).2) (p:Pr) (h:okP p):Nx p (andW u p).2:=(hu p h).trans (andL_nx hu _ _ _ (hu p h).ok)
theorem conL_nx {u:Pr→R Cd} (hu:∀p,okP p→Nx p (u p).2):∀(k:Nat) (a:Cd) (p:Pr),okP p→Nx p (conL u k a p).2
 |0,a,p,h=>.refl h
 |k+1,a,p,h=>by
  simp only[conL]
  split
  ·rename_i hi
   have h1:=isT_adv h hi
   have h2:=andW_nx hu _ h1.ok
   exact(h1.trans h2).trans (conL_nx hu k _ _ h2.ok)
  ·exact .refl h
theorem conW_nx {u:Pr→R Cd} (hu:∀p,okP p→Nx p (u p).2) (p:Pr) (h:okP p):Nx p (conW u p).2:=(andW_nx hu p h).trans (conL_nx hu _ _ _ (andW_nx hu p h).ok)
theorem not_nx:∀(f:Nat) (p:Pr),okP p→Nx p (notF f p).2
 |0,p,h=>.refl h
 |f+1,p,h=>by
  simp only[notF]
  split
  ·rename_i hi
   split
   ·rename_i hb
    have h1:=opn_adv h hb (isT_e hi).2
    exact shut_nx h hb (h1.trans (not_nx f _ h1.ok))
   ·rename_i hb;exact opn_no h (by simpa using hb)
  ·split
   ·rename_i hi
    split
    ·rename_i hb
     have h1:=opn_adv h hb (isT_e hi).2
     have h2:=h1.trans (conW_nx (not_nx f) _ h1.ok)
     exact shut_nx h hb (h2.trans (wan_nx h2.ok))
    ·rename_i hb;exact opn_no h (by simpa using hb)
   ·split
    ·rename_i hb;exact adv3_nx h hb
    ·have h1:=exS_nx h
     exact h1.trans (cmpF_nx _ _ _ _ h1.ok)
theorem cdS_nx {p:Pr} (h:okP p):Nx p (cdS p).2:=conW_nx (not_nx 41) p h
theorem argL_nx:∀(k:Nat) (l:List Ar) (p:Pr),okP p→Nx p (argL k l p).2
 |0,l,p,h=>.refl h
 |k+1,l,p,h=>by
  simp only[argL]
  split
  ·have h1:=exS_nx h
   split
   ·rename_i hi;exact h1.trans (isT_adv h1.ok hi)
   ·have h2:=h1.trans (wan_nx (t:=[44]) h1.ok)
    exact h2.trans (argL_nx k _ _ h2.ok)
  ·exact .refl h
theorem argW_nx {p:Pr} (h:okP p):Nx p (argW p).2:=by
 unfold argW
 split
 ·rename_i hi;exact isT_adv h hi
 ·exact argL_nx _ _ _ h
theorem opn_dp {f:Nat} {p:Pr} (h:okP p) (ob:opnB p=true) (hd:dpU (f+1) p):dpU f (adv (opnP p)):=by
 have h3:=(opn_e h ob).2.2
 show 41≤(opnP p).deep+(f:Int)
 rw[h3];have:41≤p.deep+((f+1:Nat):Int):=hd;simp only;omega
end Go.Proofs.YtodppgiaimihfabDoor
namespace Go.Proofs.YtodppgiaimihfabDoor
open Go Go.Sy Go.RowKit
def Ar.c (a:Ar):List C:=[.v (.bool a.p),.v (.string (bs a.s)),exC a.e]
def zAc:List C:=[.v (.bool false),.v (.string (bs [])),.v (.pointer none)]
theorem zAc_t:zT zAc=none:=rfl
attribute [go_sem] zAc_t
def Vr.c (v:Vr):List C:=[.v (.string (bs v.s)),.v (.bool v.p)]
def zVc:List C:=[.v (.string (bs [])),.v (.bool false)]
theorem zVc_t:zT zVc=none:=rfl
attribute [go_sem] zVc_t
def Sm.k:Sm→Int| .mk k _ _ _ _ _ _ _ _ _=>k
def Sm.x:Sm→List UInt8| .mk _ x _ _ _ _ _ _ _ _=>x
def Sm.y:Sm→List UInt8| .mk _ _ y _ _ _ _ _ _ _=>y
def Sm.e:Sm→Ex| .mk _ _ _ e _ _ _ _ _ _=>e
def Sm.f:Sm→Ex| .mk _ _ _ _ f _ _ _ _ _=>f
def Sm.cd:Sm→Cd| .mk _ _ _ _ _ c _ _ _ _=>c
def Sm.ar:Sm→List Ar| .mk _ _ _ _ _ _ a _ _ _=>a
def Sm.th:Sm→List Sm| .mk _ _ _ _ _ _ _ t _ _=>t
def Sm.el:Sm→List Sm| .mk _ _ _ _ _ _ _ _ e _=>e
def Sm.no:Sm→Int| .mk _ _ _ _ _ _ _ _ _ n=>n
theorem sm_r (s:Sm):s.r=[dI s.k,dS s.x,dS s.y,s.e.d,s.f.d,s.cd.d,.sl zAr (s.ar.map Ar.r),.sl zSm (s.th.map Sm.r),.sl zSm (s.el.map Sm.r),dI s.no]:=by
 cases s;simp only[Sm.r,rs_map,Sm.k,Sm.x,Sm.y,Sm.e,Sm.f,Sm.cd,Sm.ar,Sm.th,Sm.el,Sm.no]
def Sm.c (s:Sm):List C:=[.v (.int .i64 s.k),.v (.string (bs s.x)),.v (.string (bs s.y)),exC s.e,exC s.f,cdC s.cd,.d (.sl zAr (s.ar.map Ar.r)),.d (.sl zSm (s.th.map Sm.r)),.d (.sl zSm (s.el.map Sm.r)),.v (.int .i64 s.no)]
def zSc:List C:=[.v (.int .i64 0),.v (.string (bs [])),.v (.string (bs [])),.v (.pointer none),.v (.pointer none),.v (.pointer none),.v (.slice none 0 0),.v (.slice none 0 0),.v (.slice none 0 0),.v (.int .i64 0)]
theorem zSc_t:zT zSc=none:=rfl
attribute [go_sem] zSc_t
def Fn.c (f:Fn):List C:=[.v (.string (bs f.name)),.d (.sl zVr (f.ps.map Vr.r)),.d (.sl zVr (f.ls.map Vr.r)),.d (.sl zSm (f.body.map Sm.r))]
abbrev fn0:Fn:=⟨[],[],[],[]⟩
section
variable {A:Type} {l:List A}
structure RowsD (f:A→List C) (g:A→List D) (n:Nat):Prop where
 nm:∀a,∀c∈f a,C.names c=[]
 st:∀a,∀c∈f a,C.stor c=true
 td:∀a,toDs (f a)=some (g a)
 len:∀a,(f a).length=n
theorem mv_id (k t:Nat) {c:C} (h:c.names=[]) (h2:C.stor c=true):mvC k t c=c:=by
 cases c<;>first|rfl|(simp[C.stor]at h2;done)|(simp[C.names]at h;done)|(rename_i f caps;simp only[C.names]at h;simp[mvC,h])
theorem fz_id (k:Nat) (z:List D) (es:List (List D)) {c:C} (h:c.names=[]) (h2:C.stor c=true):fzC k z es c=c:=by
 cases c<;>first|rfl|(simp[C.stor]at h2;done)|(simp[C.names]at h;done)|(rename_i f caps;simp only[C.names]at h;simp[fzC,h])
theorem map_idC {σ:C→C} {r:List C} (h:∀c∈r,σ c=c):r.map σ=r:=by
 induction r with
 |nil=>rfl
 |cons c r ih=>rw[List.map_cons,h c (List.mem_cons_self ..),ih fun c hc=>h c (List.mem_cons_of_mem _ hc)]
variable {f:A→List C} {g:A→List D} {n:Nat} (hR:RowsD f g n)
include hR
theorem RowsD.fn:List.flatMap (fun r=>List.flatMap C.names r) (l.map f)=[]:=flN_of f hR.nm l
theorem RowsD.ds:toDss (l.map f)=some (l.map g):=toDss_of f hR.td l
theorem RowsD.ds1 (r:List C):toDss (l.map f++[r])=(toDs r).map fun d=>l.map g++[d]:=by
 induction l with
 |nil=>simp only[List.map_nil,List.nil_append,toDss];cases toDs r<;>rfl
 |cons a l ih=>simp only[List.map_cons,List.cons_append,toDss,hR.td a,ih];cases toDs r<;>rfl
theorem RowsD.mv (k t:Nat):(l.map f).map (fun r=>r.map (mvC k t))=l.map f:=map_of f (fun a=>map_idC fun c hc=>mv_id k t (hR.nm a c hc) (hR.st a c hc)) l
theorem RowsD.fz (k:Nat) (z:List D) (es:List (List D)):(l.map f).map (fun r=>r.map (fzC k z es))=l.map f:=map_of f (fun a=>map_idC fun c hc=>fz_id k z es (hR.nm a c hc) (hR.st a c hc)) l
theorem RowsD.stor:rowsStor (l.map f):=stor_of f hR.st l
theorem RowsD.cl:closB (l.map f)=true:=closB_of f hR.nm l
end
theorem rowsA:RowsD Ar.c Ar.r 3:=by
 refine⟨fun a c hc=>?_,fun a c hc=>?_,fun a=>?_,fun a=>rfl⟩
 ·simp only[Ar.c,List.mem_cons,List.not_mem_nil,or_false]at hc;rcases hc with rfl|rfl|rfl<;>first|rfl|exact ex_names _
 ·simp only[Ar.c,List.mem_cons,List.not_mem_nil,or_false]at hc;rcases hc with rfl|rfl|rfl<;>first|rfl|exact ex_stor _
 ·simp only[Ar.c,toDs,toD,ex_toD,Ar.r]
theorem rowsV:RowsD Vr.c Vr.r 2:=by
 refine⟨fun a c hc=>?_,fun a c hc=>?_,fun a=>?_,fun a=>rfl⟩
 ·simp only[Vr.c,List.mem_cons,List.not_mem_nil,or_false]at hc;rcases hc with rfl|rfl<;>rfl
 ·simp only[Vr.c,List.mem_cons,List.not_mem_nil,or_false]at hc;rcases hc with rfl|rfl<;>rfl
 ·simp only[Vr.c,toDs,toD,Vr.r]
theorem rowsS:RowsD Sm.c Sm.r 10:=by
 refine⟨fun a c hc=>?_,fun a c hc=>?_,fun a=>?_,fun a=>rfl⟩
 ·simp only[Sm.c,List.mem_cons,List.not_mem_nil,or_false]at hc;rcases hc with rfl|rfl|rfl|rfl|rfl|rfl|rfl|rfl|rfl|rfl<;>first|rfl|exact ex_names _|exact cd_names _
 ·simp only[Sm.c,List.mem_cons,List.not_mem_nil,or_false]at hc;rcases hc with rfl|rfl|rfl|rfl|rfl|rfl|rfl|rfl|rfl|rfl<;>first|rfl|exact ex_stor _|exact cd_stor _
 ·rw[sm_r];simp only[Sm.c,toDs,toD,ex_toD,cd_toD]
end Go.Proofs.YtodppgiaimihfabDoor
