/- Rows of arguments, variables, statements. No conditions but those in each statement. -/
import Derived.Test.YtjnnmindcbgjhabAs
import Derived.Test.YtjnnmindcbgjhabPn
set_option linter.unusedVariables false
set_option linter.unusedSimpArgs false
namespace Go.Proofs.Ytjnnmindcbgjhab
open Go Go.Sy Go.RowKit
def Ar.c (a:Ar):List C:=[.v (.bool a.p),.v (.string (bs a.s)),exC a.e]
def zAc:List C:=[.v (.bool false),.v (.string (bs [])),.v (.pointer none)]
theorem zAc_t:zT zAc=none:=rfl
attribute [go_sem] zAc_t
def Vr.c (v:Vr):List C:=[.v (.string (bs v.s)),.v (.bool v.p)]
def zVc:List C:=[.v (.string (bs [])),.v (.bool false)]
theorem zVc_t:zT zVc=none:=rfl
attribute [go_sem] zVc_t
def Sm.k:Sm→Int| .mk k _ _ _ _ _ _ _ _ _=>k
def Sm.x:Sm→List UInt8| .mk _ x _ _ _ _ _ _ _ _=>x
def Sm.y:Sm→List UInt8| .mk _ _ y _ _ _ _ _ _ _=>y
def Sm.e:Sm→Ex| .mk _ _ _ e _ _ _ _ _ _=>e
def Sm.f:Sm→Ex| .mk _ _ _ _ f _ _ _ _ _=>f
def Sm.cd:Sm→Cd| .mk _ _ _ _ _ c _ _ _ _=>c
def Sm.ar:Sm→List Ar| .mk _ _ _ _ _ _ a _ _ _=>a
def Sm.th:Sm→List Sm| .mk _ _ _ _ _ _ _ t _ _=>t
def Sm.el:Sm→List Sm| .mk _ _ _ _ _ _ _ _ e _=>e
def Sm.no:Sm→Int| .mk _ _ _ _ _ _ _ _ _ n=>n
theorem sm_r (s:Sm):s.r=[dI s.k,dS s.x,dS s.y,s.e.d,s.f.d,s.cd.d,.sl zAr (s.ar.map Ar.r),.sl zSm (s.th.map Sm.r),.sl zSm (s.el.map Sm.r),dI s.no]:=by
 cases s;simp only[Sm.r,rs_map,Sm.k,Sm.x,Sm.y,Sm.e,Sm.f,Sm.cd,Sm.ar,Sm.th,Sm.el,Sm.no]
def Sm.c (s:Sm):List C:=[.v (.int .i64 s.k),.v (.string (bs s.x)),.v (.string (bs s.y)),exC s.e,exC s.f,cdC s.cd,.d (.sl zAr (s.ar.map Ar.r)),.d (.sl zSm (s.th.map Sm.r)),.d (.sl zSm (s.el.map Sm.r)),.v (.int .i64 s.no)]
def zSc:List C:=[.v (.int .i64 0),.v (.string (bs [])),.v (.string (bs [])),.v (.pointer none),.v (.pointer none),.v (.pointer none),.v (.slice none 0 0),.v (.slice none 0 0),.v (.slice none 0 0),.v (.int .i64 0)]
theorem zSc_t:zT zSc=none:=rfl
attribute [go_sem] zSc_t
def Fn.c (f:Fn):List C:=[.v (.string (bs f.name)),.d (.sl zVr (f.ps.map Vr.r)),.d (.sl zVr (f.ls.map Vr.r)),.d (.sl zSm (f.body.map Sm.r))]
abbrev fn0:Fn:=⟨[],[],[],[]⟩
section
variable {A:Type} {l:List A}
structure RowsD (f:A→List C) (g:A→List D) (n:Nat):Prop where
 nm:∀a,∀c∈f a,C.names c=[]
 st:∀a,∀c∈f a,C.stor c=true
 td:∀a,toDs (f a)=some (g a)
 len:∀a,(f a).length=n
theorem mv_id (k t:Nat) {c:C} (h:c.names=[]) (h2:C.stor c=true):mvC k t c=c:=by
 cases c<;>first|rfl|(simp[C.stor]at h2;done)|(simp[C.names]at h;done)|(rename_i f caps;simp only[C.names]at h;simp[mvC,h])
theorem fz_id (k:Nat) (z:List D) (es:List (List D)) {c:C} (h:c.names=[]) (h2:C.stor c=true):fzC k z es c=c:=by
 cases c<;>first|rfl|(simp[C.stor]at h2;done)|(simp[C.names]at h;done)|(rename_i f caps;simp only[C.names]at h;simp[fzC,h])
theorem map_idC {σ:C→C} {r:List C} (h:∀c∈r,σ c=c):r.map σ=r:=by
 induction r with
 |nil=>rfl
 |cons c r ih=>rw[List.map_cons,h c (List.mem_cons_self ..),ih fun c hc=>h c (List.mem_cons_of_mem _ hc)]
variable {f:A→List C} {g:A→List D} {n:Nat} (hR:RowsD f g n)
include hR
theorem RowsD.fn:List.flatMap (fun r=>List.flatMap C.names r) (l.map f)=[]:=flN_of f hR.nm l
theorem RowsD.ds:toDss (l.map f)=some (l.map g):=toDss_of f hR.td l
theorem RowsD.ds1 (r:List C):toDss (l.map f++[r])=(toDs r).map fun d=>l.map g++[d]:=by
 induction l with
 |nil=>simp only[List.map_nil,List.nil_append,toDss];cases toDs r<;>rfl
 |cons a l ih=>simp only[List.map_cons,List.cons_append,toDss,hR.td a,ih];cases toDs r<;>rfl
theorem RowsD.mv (k t:Nat):(l.map f).map (fun r=>r.map (mvC k t))=l.map f:=map_of f (fun a=>map_idC fun c hc=>mv_id k t (hR.nm a c hc) (hR.st a c hc)) l
theorem RowsD.fz (k:Nat) (z:List D) (es:List (List D)):(l.map f).map (fun r=>r.map (fzC k z es))=l.map f:=map_of f (fun a=>map_idC fun c hc=>fz_id k z es (hR.nm a c hc) (hR.st a c hc)) l
theorem RowsD.stor:rowsStor (l.map f):=stor_of f hR.st l
theorem RowsD.cl:closB (l.map f)=true:=closB_of f hR.nm l
end
theorem rowsA:RowsD Ar.c Ar.r 3:=by
 refine⟨fun a c hc=>?_,fun a c hc=>?_,fun a=>?_,fun a=>rfl⟩
 ·simp only[Ar.c,List.mem_cons,List.not_mem_nil,or_false]at hc;rcases hc with rfl|rfl|rfl<;>first|rfl|exact ex_names _
 ·simp only[Ar.c,List.mem_cons,List.not_mem_nil,or_false]at hc;rcases hc with rfl|rfl|rfl<;>first|rfl|exact ex_stor _
 ·simp only[Ar.c,toDs,toD,ex_toD,Ar.r]
theorem rowsV:RowsD Vr.c Vr.r 2:=by
 refine⟨fun a c hc=>?_,fun a c hc=>?_,fun a=>?_,fun a=>rfl⟩
 ·simp only[Vr.c,List.mem_cons,List.not_mem_nil,or_false]at hc;rcases hc with rfl|rfl<;>rfl
 ·simp only[Vr.c,List.mem_cons,List.not_mem_nil,or_false]at hc;rcases hc with rfl|rfl<;>rfl
 ·simp only[Vr.c,toDs,toD,Vr.r]
theorem rowsS:RowsD Sm.c Sm.r 10:=by
 refine⟨fun a c hc=>?_,fun a c hc=>?_,fun a=>?_,fun a=>rfl⟩
 ·simp only[Sm.c,List.mem_cons,List.not_mem_nil,or_false]at hc;rcases hc with rfl|rfl|rfl|rfl|rfl|rfl|rfl|rfl|rfl|rfl<;>first|rfl|exact ex_names _|exact cd_names _
 ·simp only[Sm.c,List.mem_cons,List.not_mem_nil,or_false]at hc;rcases hc with rfl|rfl|rfl|rfl|rfl|rfl|rfl|rfl|rfl|rfl<;>first|rfl|exact ex_stor _|exact cd_stor _
 ·rw[sm_r];simp only[Sm.c,toDs,toD,ex_toD,cd_toD]
end Go.Proofs.Ytjnnmindcbgjhab
namespace Go.Proofs.Ytjnnmindcbgjhab
open Go Go.Sy Go.RowKit
abbrev tNull:List UInt8:=[110,117,108,108]
abbrev tRet:List UInt8:=[114,101,116,117,114,110]
abbrev tAss:List UInt8:=[97,115,115,101,114,116]
abbrev tIf:List UInt8:=[105,102]
abbrev tWhi:List UInt8:=[119,104,105,108,101]
abbrev tElse:List UInt8:=[101,108,115,101]
abbrev tVar:List UInt8:=[118,97,114]
abbrev tPtr:List UInt8:=[112,116,114]
abbrev tFn:List UInt8:=[102,110]
structure VR where
 k:Int
 y:List UInt8
 e:Ex
 a:Option (List Ar)
def ahB (t:List UInt8) (p:Pr):Bool:=nameB p&&decide (w64i (p.i+1)<(p.l.length:Int))&&(tkA p (w64i (p.i+1))).t==t
def valF (p:Pr):R VR:=
 if isT tNull p=true then (⟨3,[],.nil,none⟩,adv p)
 else if isT [38] p=true then (⟨1,namS (adv p),.nil,none⟩,namP (adv p))
 else if isT [42] p=true then (⟨4,namS (adv p),.nil,none⟩,namP (adv p))
 else if ahB [91] p=true then (⟨6,namS p,(exS (adv (namP p))).1,none⟩,wanP [93] (exS (adv (namP p))).2)
 else if ahB [40] p=true then (⟨8,namS p,.nil,some (argW (adv (namP p))).1⟩,(argW (adv (namP p))).2)
 else (⟨0,[],(exS p).1,none⟩,(exS p).2)
def nxt (p:Pr):Pr:={ p with n:=w64i (p.n+1) }
def knoB (p:Pr):Bool:=nameB p||isT [42] p||isT tRet p||isT tAss p||isT tIf p||isT tWhi p
def sm0 (no:Int):Sm:=.mk 0 [] [] .nil .nil .nil [] [] [] no
def stmtsL (st:Pr→R Sm):Nat→List Sm→Pr→R (List Sm)
 |0,l,p=>(l,p)
 |k+1,l,p=>
  if (p.e==0)=true then
   (
    if isT [125] p=true then (l,adv p)
    else if decide ((p.l.length:Int)≤p.i)=true then ([],failP 51 p)
    else stmtsL st k (l++[(st p).1]) (st p).2)
  else (l,p)
def stmtsW (st:Pr→R Sm) (p:Pr):R (List Sm):=stmtsL st (p.l.length+1) [] p
def blkW (st:Pr→R Sm) (p:Pr):R (List Sm):=
 if isT [123] p=true then
  (if opnB p=true then ((stmtsW st (adv (opnP p))).1,shut (stmtsW st (adv (opnP p))).2) else ([],opnP p))
 else ([],failP 51 p)
def ifC (p:Pr):R Cd:=cdS (wanP [40] (adv p))
def ifB (blk:Pr→R (List Sm)) (p:Pr):R (List Sm):=blk (wanP [41] (ifC p).2)
def stmB (st:Pr→R Sm) (no:Int) (p:Pr):R Sm:=
 if isT tRet p=true then (.mk 9 [] [] (exS (adv p)).1 .nil .nil [] [] [] no,wanP [59] (exS (adv p)).2)
 else if isT tAss p=true then (.mk 12 [] [] .nil .nil (ifC p).1 [] [] [] no,wanP [59] (wanP [41] (ifC p).2))
 else if isT tWhi p=true then (.mk 11 [] [] .nil .nil (ifC p).1 [] (ifB (blkW st) p).1 [] no,(ifB (blkW st) p).2)
 else if isT tIf p=true then
  (if isT tElse (ifB (blkW st) p).2=true then
   (.mk 10 [] [] .nil .nil (ifC p).1 [] (ifB (blkW st) p).1 (blkW st (adv (ifB (blkW st) p).2)).1 no,(blkW st (adv (ifB (blkW st) p).2)).2)
   else (.mk 10 [] [] .nil .nil (ifC p).1 [] (ifB (blkW st) p).1 [] no,(ifB (blkW st) p).2))
 else if isT [42] p=true then
  (.mk 5 (namS (adv p)) [] (exS (wanP [61] (namP (adv p)))).1 .nil .nil [] [] [] no,wanP [59] (exS (wanP [61] (namP (adv p)))).2)
 else if isT [40] (namP p)=true then
  (.mk 8 [] (namS p) .nil .nil .nil (argW (adv (namP p))).1 [] [] no,wanP [59] (argW (adv (namP p))).2)
 else if isT [91] (namP p)=true then
  (.mk 7 [] (namS p) (exS (adv (namP p))).1 (exS (wanP [61] (wanP [93] (exS (adv (namP p))).2))).1 .nil [] [] [] no,wanP [59] (exS (wanP [61] (wanP [93] (exS (adv (namP p))).2))).2)
 else (.mk (valF (wanP [61] (namP p))).1.k (namS p) (valF (wanP [61] (namP p))).1.y (valF (wanP [61] (namP p))).1.e .nil .nil ((valF (wanP [61] (namP p))).1.a.getD []) [] [] no,wanP [59] (valF (wanP [61] (namP p))).2)
def stmF:Nat→Pr→R Sm
 |0,p=>(sm0 p.n,p)
 |f+1,p=>if (knoB p&&decide (200≤p.n))=true then (sm0 p.n,failP 53 p) else stmB (stmF f) p.n (nxt p)
abbrev bodS:Pr→R (List Sm):=stmtsW (stmF 41)
theorem nxt_nx {p:Pr} (h:okP p):Nx p (nxt p):=⟨h,rfl,rfl,Int.le_refl _,rfl,fun _=>⟨rfl,rfl⟩⟩
theorem val_nx {p:Pr} (h:okP p):Nx p (valF p).2:=by
 unfold valF
 split
 ·rename_i hi;exact isT_adv h hi
 split
 ·rename_i hi;have h1:=isT_adv h hi;exact h1.trans (nam_nx h1.ok)
 split
 ·rename_i hi;have h1:=isT_adv h hi;exact h1.trans (nam_nx h1.ok)
 have key:∀t,ahB t p=true→Nx p (adv (namP p)):=by
  intro t hb
  unfold ahB at hb
  simp only[Bool.and_eq_true,decide_eq_true_eq]at hb
  have hn:=hb.1.1
  have h1:=nam_nx h
  have e:namP p=adv p:=by unfold namP;rw[if_pos hn]
  rw[e]at h1 ⊢
  have e2:=adv_i h (nameB_e hn).2
  have h3:w64i (p.i+1)=p.i+1:=e2
  rw[h3]at hb
  exact h1.trans (adv_nx h1.ok (by rw[e2];exact hb.1.2) (nameB_e hn).1)
 split
 ·rename_i hb
  have h1:=key _ hb
  have h2:=h1.trans (exS_nx h1.ok)
  exact h2.trans (wan_nx h2.ok)
 split
 ·rename_i hb
  have h1:=key _ hb
  exact h1.trans (argW_nx h1.ok)
 ·exact exS_nx h
theorem stmtsL_nx {st:Pr→R Sm} (hu:∀p,okP p→Nx p (st p).2):∀(k:Nat) (l:List Sm) (p:Pr),okP p→Nx p (stmtsL st k l p).2
 |0,l,p,h=>.refl h
 |k+1,l,p,h=>by
  simp only[stmtsL]
  split
  ·split
   ·rename_i hi;exact isT_adv h hi
   ·split
    ·exact fail_nx 51 h
    ·have h1:=hu p h
     exact h1.trans (stmtsL_nx hu k _ _ h1.ok)
  ·exact .refl h
theorem stmtsW_nx {st:Pr→R Sm} (hu:∀p,okP p→Nx p (st p).2) {p:Pr} (h:okP p):Nx p (stmtsW st p).2:=stmtsL_nx hu _ _ _ h
theorem blkW_nx {st:Pr→R Sm} (hu:∀p,okP p→Nx p (st p).2) {p:Pr} (h:okP p):Nx p (blkW st p).2:=by
 unfold blkW
 split
 ·rename_i hi
  split
  ·rename_i hb
   have h1:=opn_adv h hb (isT_e hi).2
   exact shut_nx h hb (h1.trans (stmtsW_nx hu h1.ok))
  ·rename_i hb;exact opn_no h (by simpa using hb)
 ·exact fail_nx 51 h
theorem ifC_nx {p:Pr} {t:List UInt8} (h:okP p) (hi:isT t p=true):Nx p (ifC p).2:=by
 have h1:=isT_adv h hi
 have h2:=h1.trans (wan_nx (t:=[40]) h1.ok)
 exact h2.trans (cdS_nx h2.ok)
theorem ifB_nx {st:Pr→R Sm} (hu:∀p,okP p→Nx p (st p).2) {p:Pr} {t:List UInt8} (h:okP p) (hi:isT t p=true):Nx p (ifB (blkW st) p).2:=by
 have h1:=ifC_nx h hi
 have h2:=h1.trans (wan_nx (t:=[41]) h1.ok)
 exact h2.trans (blkW_nx hu h2.ok)
theorem stmB_nx {st:Pr→R Sm} (hu:∀p,okP p→Nx p (st p).2) (no:Int) {p:Pr} (h:okP p):Nx p (stmB st no p).2:=by
 unfold stmB
 split
 ·rename_i hi
  have h1:=isT_adv h hi
  have h2:=h1.trans (exS_nx h1.ok)
  exact h2.trans (wan_nx h2.ok)
 split
 ·rename_i hi
  have h1:=ifC_nx h hi
  have h2:=h1.trans (wan_nx (t:=[41]) h1.ok)
  exact h2.trans (wan_nx h2.ok)
 split
 ·rename_i hi;exact ifB_nx hu h hi
 split
 ·rename_i hi
  split
  ·rename_i hi2
   have h1:=ifB_nx hu h hi
   have h2:=h1.trans (isT_adv h1.ok hi2)
   exact h2.trans (blkW_nx hu h2.ok)
  ·exact ifB_nx hu h hi
 split
 ·rename_i hi
  have h1:=isT_adv h hi
  have h2:=h1.trans (nam_nx h1.ok)
  have h3:=h2.trans (wan_nx (t:=[61]) h2.ok)
  have h4:=h3.trans (exS_nx h3.ok)
  exact h4.trans (wan_nx h4.ok)
 have hn:=nam_nx h
 split
 ·rename_i hi
  have h1:=hn.trans (isT_adv hn.ok hi)
  have h2:=h1.trans (argW_nx h1.ok)
  exact h2.trans (wan_nx h2.ok)
 split
 ·rename_i hi
  have h1:=hn.trans (isT_adv hn.ok hi)
  have h2:=h1.trans (exS_nx h1.ok)
  have h3:=h2.trans (wan_nx (t:=[93]) h2.ok)
  have h4:=h3.trans (wan_nx (t:=[61]) h3.ok)
  have h5:=h4.trans (exS_nx h4.ok)
  exact h5.trans (wan_nx h5.ok)
 ·have h1:=hn.trans (wan_nx (t:=[61]) hn.ok)
  have h2:=h1.trans (val_nx h1.ok)
  exact h2.trans (wan_nx h2.ok)
theorem stm_nx:∀(f:Nat) (p:Pr),okP p→Nx p (stmF f p).2
 |0,p,h=>.refl h
 |f+1,p,h=>by
  simp only[stmF]
  split
  ·exact fail_nx 53 h
  ·have h1:=nxt_nx h
   exact h1.trans (stmB_nx (stm_nx f) _ h1.ok)
theorem ahB_e {t:List UInt8} {p:Pr} (h:okP p) (hb:ahB t p=true):nameB p=true∧p.i+1<(p.l.length:Int)∧IntKind.i64.wrap (p.i+1)=p.i+1∧((p.l.getD (p.i+1).toNat tk0).t==t)=true:=by
 have n5:IntKind.i64.wrap (p.i+1)=p.i+1:=by obtain⟨h1,h2,h3,_⟩:=h;exact wrap_i64 (by omega) (by omega)
 unfold ahB tkA at hb
 simp only[w64i,n5,Bool.and_eq_true,decide_eq_true_eq]at hb
 exact⟨hb.1.1,hb.1.2,n5,hb.2⟩
theorem ahB_nx {t:List UInt8} {p:Pr} (h:okP p) (hb:ahB t p=true):Nx p (adv (namP p)):=by
 obtain⟨hn,h2,h3,_⟩:=ahB_e h hb
 have h1:=nam_nx h
 have e:namP p=adv p:=by unfold namP;rw[if_pos hn]
 rw[e]at h1 ⊢
 have e2:=adv_i h (nameB_e hn).2
 exact h1.trans (adv_nx h1.ok (by rw[e2];exact h2) (nameB_e hn).1)
theorem wan_pr {t:List UInt8} {p q:Pr} (h:okP q) (hi:p.i≤q.i) (h0:(wanP t q).e=0):p.i+1≤(wanP t q).i:=by rw[wan_i h h0];omega
theorem stmB_pr {st:Pr→R Sm} (hu:∀p,okP p→Nx p (st p).2) (no:Int) {p:Pr} (h:okP p) (h0:(stmB st no p).2.e=0):p.i+1≤(stmB st no p).2.i:=by
 have hB:∀{t:List UInt8},isT t p=true→p.i+1≤(ifB (blkW st) p).2.i:=by
  intro t hi
  have h1:=isT_adv h hi
  have h2:=wan_nx (t:=[40]) h1.ok
  have h3:=h2.trans (cdS_nx h2.ok)
  have h4:=h3.trans (wan_nx (t:=[41]) h3.ok)
  have h5:=(h4.trans (blkW_nx hu h4.ok)).i
  rw[adv_i h (isT_e hi).2]at h5
  exact h5
 have hn:=nam_nx h
 revert h0
 unfold stmB
 split
 ·rename_i hi
  intro h0
  have h1:=isT_adv h hi
  have h2:=h1.trans (exS_nx h1.ok)
  exact wan_pr h2.ok h2.i h0
 split
 ·rename_i hi
  intro h0
  have h1:=ifC_nx h hi
  have h2:=h1.trans (wan_nx (t:=[41]) h1.ok)
  exact wan_pr h2.ok h2.i h0
 split
 ·rename_i hi;exact fun _=>hB hi
 split
 ·rename_i hi
  split
  ·rename_i hi2
   intro _
   have h1:=ifB_nx hu h hi
   have h2:=isT_adv h1.ok hi2
   have h3:=(h2.trans (blkW_nx hu h2.ok)).i
   exact Int.le_trans (hB hi) h3
  ·exact fun _=>hB hi
 split
 ·rename_i hi
  intro h0
  have h1:=isT_adv h hi
  have h2:=h1.trans (nam_nx h1.ok)
  have h3:=h2.trans (wan_nx (t:=[61]) h2.ok)
  have h4:=h3.trans (exS_nx h3.ok)
  exact wan_pr h4.ok h4.i h0
 split
 ·rename_i hi
  intro h0
  have h1:=hn.trans (isT_adv hn.ok hi)
  have h2:=h1.trans (argW_nx h1.ok)
  exact wan_pr h2.ok h2.i h0
 split
 ·rename_i hi
  intro h0
  have h1:=hn.trans (isT_adv hn.ok hi)
  have h2:=h1.trans (exS_nx h1.ok)
  have h3:=h2.trans (wan_nx (t:=[93]) h2.ok)
  have h4:=h3.trans (wan_nx (t:=[61]) h3.ok)
  have h5:=h4.trans (exS_nx h4.ok)
  exact wan_pr h5.ok h5.i h0
 ·intro h0
  have h1:=hn.trans (wan_nx (t:=[61]) hn.ok)
  have h2:=h1.trans (val_nx h1.ok)
  exact wan_pr h2.ok h2.i h0
theorem failP_ne {c:Int} (hc:c≠0) (p:Pr):(failP c p).e≠0:=by
 unfold failP
 split
 ·exact hc
 ·rename_i h;simpa using h
theorem stm_pr (f:Nat) {p:Pr} (h:okP p) (h0:(stmF (f+1) p).2.e=0):p.i+1≤(stmF (f+1) p).2.i:=by
 revert h0
 simp only[stmF]
 split
 ·exact fun h0=>absurd h0 (failP_ne (by decide) p)
 ·exact fun h0=>stmB_pr (stm_nx f) _ (nxt_nx h).ok h0
theorem dp_nx {f:Nat} {p q:Pr} (h:Nx p q) (hd:dpU f p):dpU f q:=by unfold dpU;rw[h.d];exact hd
end Go.Proofs.Ytjnnmindcbgjhab
