/- Rows of arguments, variables, statements. No conditions but those in each statement. -/
import Derived.Test.YtjnnmindcbgjhaaGs
import Derived.Test.YtjnnmindcbgjhaaPn
set_option linter.unusedVariables false
set_option linter.unusedSimpArgs false
namespace Go.Proofs.Ytjnnmindcbgjhaa
open Go Go.Sy Go.RowKit
def Ar.c (a:Ar):List C:=[.v (.bool a.p),.v (.string (bs a.s)),exC a.e]
def zAc:List C:=[.v (.bool false),.v (.string (bs [])),.v (.pointer none)]
theorem A0O:zT zAc=none:=rfl
attribute [go_sem] A0O
def Vr.c (v:Vr):List C:=[.v (.string (bs v.s)),.v (.bool v.p)]
def zVc:List C:=[.v (.string (bs [])),.v (.bool false)]
theorem A0P:zT zVc=none:=rfl
attribute [go_sem] A0P
def Sm.k:Sm→Int| .mk k _ _ _ _ _ _ _ _ _=>k
def Sm.x:Sm→List UInt8| .mk _ x _ _ _ _ _ _ _ _=>x
def Sm.y:Sm→List UInt8| .mk _ _ y _ _ _ _ _ _ _=>y
def Sm.e:Sm→Ex| .mk _ _ _ e _ _ _ _ _ _=>e
def Sm.f:Sm→Ex| .mk _ _ _ _ f _ _ _ _ _=>f
def Sm.cd:Sm→Cd| .mk _ _ _ _ _ c _ _ _ _=>c
def Sm.ar:Sm→List Ar| .mk _ _ _ _ _ _ a _ _ _=>a
def Sm.th:Sm→List Sm| .mk _ _ _ _ _ _ _ t _ _=>t
def Sm.el:Sm→List Sm| .mk _ _ _ _ _ _ _ _ e _=>e
def Sm.no:Sm→Int| .mk _ _ _ _ _ _ _ _ _ n=>n
theorem HN (s:Sm):s.r=[dI s.k,dS s.x,dS s.y,s.e.d,s.f.d,s.cd.d,.sl zAr (s.ar.map Ar.r),.sl zSm (s.th.map Sm.r),.sl zSm (s.el.map Sm.r),dI s.no]:=by
 cases s;simp only[Sm.r,cV,Sm.k,Sm.x,Sm.y,Sm.e,Sm.f,Sm.cd,Sm.ar,Sm.th,Sm.el,Sm.no]
def Sm.c (s:Sm):List C:=[.v (.int .i64 s.k),.v (.string (bs s.x)),.v (.string (bs s.y)),exC s.e,exC s.f,cdC s.cd,.d (.sl zAr (s.ar.map Ar.r)),.d (.sl zSm (s.th.map Sm.r)),.d (.sl zSm (s.el.map Sm.r)),.v (.int .i64 s.no)]
def zSc:List C:=[.v (.int .i64 0),.v (.string (bs [])),.v (.string (bs [])),.v (.pointer none),.v (.pointer none),.v (.pointer none),.v (.slice none 0 0),.v (.slice none 0 0),.v (.slice none 0 0),.v (.int .i64 0)]
theorem A0Q:zT zSc=none:=rfl
attribute [go_sem] A0Q
def Fn.c (f:Fn):List C:=[.v (.string (bs f.name)),.d (.sl zVr (f.ps.map Vr.r)),.d (.sl zVr (f.ls.map Vr.r)),.d (.sl zSm (f.body.map Sm.r))]
abbrev fn0:Fn:=⟨[],[],[],[]⟩
section
variable {A:Type} {l:List A}
structure RowsD (f:A→List C) (g:A→List D) (n:Nat):Prop where
 nm:∀a,∀c∈f a,C.names c=[]
 st:∀a,∀c∈f a,C.stor c=true
 td:∀a,Ew (f a)=some (g a)
 len:∀a,(f a).length=n
theorem A0R (k t:Nat) {c:C} (h:c.names=[]) (h2:C.stor c=true):mvC k t c=c:=by
 cases c<;>first|rfl|(simp[C.stor]at h2;done)|(simp[C.names]at h;done)|(rename_i f caps;simp only[C.names]at h;simp[mvC,h])
theorem A0S (k:Nat) (z:List D) (es:List (List D)) {c:C} (h:c.names=[]) (h2:C.stor c=true):fzC k z es c=c:=by
 cases c<;>first|rfl|(simp[C.stor]at h2;done)|(simp[C.names]at h;done)|(rename_i f caps;simp only[C.names]at h;simp[fzC,h])
theorem Yp {σ:C→C} {r:List C} (h:∀c∈r,σ c=c):r.map σ=r:=by
 induction r with
 |nil=>rfl
 |cons c r ih=>rw[List.map_cons,h c (List.mem_cons_self ..),ih fun c hc=>h c (List.mem_cons_of_mem _ hc)]
variable {f:A→List C} {g:A→List D} {n:Nat} (hR:RowsD f g n)
include hR
theorem RowsD.fn:List.flatMap (fun r=>List.flatMap C.names r) (l.map f)=[]:=xz f hR.nm l
theorem RowsD.ds:D3 (l.map f)=some (l.map g):=FM f hR.td l
theorem RowsD.ds1 (r:List C):D3 (l.map f++[r])=(Ew r).map fun d=>l.map g++[d]:=by
 induction l with
 |nil=>simp only[List.map_nil,List.nil_append,D3];cases Ew r<;>rfl
 |cons a l ih=>simp only[List.map_cons,List.cons_append,D3,hR.td a,ih];cases Ew r<;>rfl
theorem RowsD.mv (k t:Nat):(l.map f).map (fun r=>r.map (mvC k t))=l.map f:=G4 f (fun a=>Yp fun c hc=>A0R k t (hR.nm a c hc) (hR.st a c hc)) l
theorem RowsD.fz (k:Nat) (z:List D) (es:List (List D)):(l.map f).map (fun r=>r.map (fzC k z es))=l.map f:=G4 f (fun a=>Yp fun c hc=>A0S k z es (hR.nm a c hc) (hR.st a c hc)) l
theorem RowsD.stor:B4 (l.map f):=Vn f hR.st l
theorem RowsD.cl:SK (l.map f)=true:=kO f hR.nm l
end
theorem HO:RowsD Ar.c Ar.r 3:=by
 refine⟨fun a c hc=>?_,fun a c hc=>?_,fun a=>?_,fun a=>rfl⟩
 ·simp only[Ar.c,List.mem_cons,List.not_mem_nil,or_false]at hc;rcases hc with rfl|rfl|rfl<;>first|rfl|exact Fp _
 ·simp only[Ar.c,List.mem_cons,List.not_mem_nil,or_false]at hc;rcases hc with rfl|rfl|rfl<;>first|rfl|exact Ug _
 ·simp only[Ar.c,Ew,toD,X3,Ar.r]
theorem CZ:RowsD Vr.c Vr.r 2:=by
 refine⟨fun a c hc=>?_,fun a c hc=>?_,fun a=>?_,fun a=>rfl⟩
 ·simp only[Vr.c,List.mem_cons,List.not_mem_nil,or_false]at hc;rcases hc with rfl|rfl<;>rfl
 ·simp only[Vr.c,List.mem_cons,List.not_mem_nil,or_false]at hc;rcases hc with rfl|rfl<;>rfl
 ·simp only[Vr.c,Ew,toD,Vr.r]
theorem Gm:RowsD Sm.c Sm.r 10:=by
 refine⟨fun a c hc=>?_,fun a c hc=>?_,fun a=>?_,fun a=>rfl⟩
 ·simp only[Sm.c,List.mem_cons,List.not_mem_nil,or_false]at hc;rcases hc with rfl|rfl|rfl|rfl|rfl|rfl|rfl|rfl|rfl|rfl<;>first|rfl|exact Fp _|exact HQ _
 ·simp only[Sm.c,List.mem_cons,List.not_mem_nil,or_false]at hc;rcases hc with rfl|rfl|rfl|rfl|rfl|rfl|rfl|rfl|rfl|rfl<;>first|rfl|exact Ug _|exact Yx _
 ·rw[HN];simp only[Sm.c,Ew,toD,X3,cf]
end Go.Proofs.Ytjnnmindcbgjhaa
namespace Go.Proofs.Ytjnnmindcbgjhaa
open Go Go.Sy Go.RowKit
abbrev kU:List UInt8:=[110,117,108,108]
abbrev fb:List UInt8:=[114,101,116,117,114,110]
abbrev fc:List UInt8:=[97,115,115,101,114,116]
abbrev tIf:List UInt8:=[105,102]
abbrev fe:List UInt8:=[119,104,105,108,101]
abbrev kV:List UInt8:=[101,108,115,101]
abbrev A6L:List UInt8:=[118,97,114]
abbrev tPtr:List UInt8:=[112,116,114]
abbrev tFn:List UInt8:=[102,110]
structure VR where
 k:Int
 y:List UInt8
 e:Ex
 a:Option (List Ar)
def ahB (t:List UInt8) (p:Pr):Bool:=nameB p&&decide (w64i (p.i+1)<(p.l.length:Int))&&(tkA p (w64i (p.i+1))).t==t
def EZ (p:Pr):R VR:=
 if isT kU p=true then (⟨3,[],.nil,none⟩,adv p)
 else if isT [38] p=true then (⟨1,Cz (adv p),.nil,none⟩,BX (adv p))
 else if isT [42] p=true then (⟨4,Cz (adv p),.nil,none⟩,BX (adv p))
 else if ahB [91] p=true then (⟨6,Cz p,(exS (adv (BX p))).1,none⟩,B2 [93] (exS (adv (BX p))).2)
 else if ahB [40] p=true then (⟨8,Cz p,.nil,some (H4 (adv (BX p))).1⟩,(H4 (adv (BX p))).2)
 else (⟨0,[],(exS p).1,none⟩,(exS p).2)
def nxt (p:Pr):Pr:={ p with n:=w64i (p.n+1) }
def aQ (p:Pr):Bool:=nameB p||isT [42] p||isT fb p||isT fc p||isT tIf p||isT fe p
def sm0 (no:Int):Sm:=.mk 0 [] [] .nil .nil .nil [] [] [] no
def stmtsL (st:Pr→R Sm):Nat→List Sm→Pr→R (List Sm)
 |0,l,p=>(l,p)
 |k+1,l,p=>
  if (p.e==0)=true then
   (
    if isT [125] p=true then (l,adv p)
    else if decide ((p.l.length:Int)≤p.i)=true then ([],CJ 51 p)
    else stmtsL st k (l++[(st p).1]) (st p).2)
  else (l,p)
def stmtsW (st:Pr→R Sm) (p:Pr):R (List Sm):=stmtsL st (p.l.length+1) [] p
def blkW (st:Pr→R Sm) (p:Pr):R (List Sm):=
 if isT [123] p=true then
  (if Es p=true then ((stmtsW st (adv (Bm p))).1,shut (stmtsW st (adv (Bm p))).2) else ([],Bm p))
 else ([],CJ 51 p)
def ifC (p:Pr):R Cd:=cdS (B2 [40] (adv p))
def ifB (blk:Pr→R (List Sm)) (p:Pr):R (List Sm):=blk (B2 [41] (ifC p).2)
def II (st:Pr→R Sm) (no:Int) (p:Pr):R Sm:=
 if isT fb p=true then (.mk 9 [] [] (exS (adv p)).1 .nil .nil [] [] [] no,B2 [59] (exS (adv p)).2)
 else if isT fc p=true then (.mk 12 [] [] .nil .nil (ifC p).1 [] [] [] no,B2 [59] (B2 [41] (ifC p).2))
 else if isT fe p=true then (.mk 11 [] [] .nil .nil (ifC p).1 [] (ifB (blkW st) p).1 [] no,(ifB (blkW st) p).2)
 else if isT tIf p=true then
  (if isT kV (ifB (blkW st) p).2=true then
   (.mk 10 [] [] .nil .nil (ifC p).1 [] (ifB (blkW st) p).1 (blkW st (adv (ifB (blkW st) p).2)).1 no,(blkW st (adv (ifB (blkW st) p).2)).2)
   else (.mk 10 [] [] .nil .nil (ifC p).1 [] (ifB (blkW st) p).1 [] no,(ifB (blkW st) p).2))
 else if isT [42] p=true then
  (.mk 5 (Cz (adv p)) [] (exS (B2 [61] (BX (adv p)))).1 .nil .nil [] [] [] no,B2 [59] (exS (B2 [61] (BX (adv p)))).2)
 else if isT [40] (BX p)=true then
  (.mk 8 [] (Cz p) .nil .nil .nil (H4 (adv (BX p))).1 [] [] no,B2 [59] (H4 (adv (BX p))).2)
 else if isT [91] (BX p)=true then
  (.mk 7 [] (Cz p) (exS (adv (BX p))).1 (exS (B2 [61] (B2 [93] (exS (adv (BX p))).2))).1 .nil [] [] [] no,B2 [59] (exS (B2 [61] (B2 [93] (exS (adv (BX p))).2))).2)
 else (.mk (EZ (B2 [61] (BX p))).1.k (Cz p) (EZ (B2 [61] (BX p))).1.y (EZ (B2 [61] (BX p))).1.e .nil .nil ((EZ (B2 [61] (BX p))).1.a.getD []) [] [] no,B2 [59] (EZ (B2 [61] (BX p))).2)
def C1:Nat→Pr→R Sm
 |0,p=>(sm0 p.n,p)
 |f+1,p=>if (aQ p&&decide (200≤p.n))=true then (sm0 p.n,CJ 53 p) else II (C1 f) p.n (nxt p)
abbrev A6M:Pr→R (List Sm):=stmtsW (C1 41)
theorem TP {p:Pr} (h:okP p):Nx p (nxt p):=⟨h,rfl,rfl,Int.le_refl _,rfl,fun _=>⟨rfl,rfl⟩⟩
theorem Wv {p:Pr} (h:okP p):Nx p (EZ p).2:=by
 unfold EZ
 split
 ·rename_i hi;exact B7 h hi
 split
 ·rename_i hi;have h1:=B7 h hi;exact h1.trans (FP h1.ok)
 split
 ·rename_i hi;have h1:=B7 h hi;exact h1.trans (FP h1.ok)
 have key:∀t,ahB t p=true→Nx p (adv (BX p)):=by
  intro t hb
  unfold ahB at hb
  simp only[Bool.and_eq_true,decide_eq_true_eq]at hb
  have hn:=hb.1.1
  have h1:=FP h
  have e:BX p=adv p:=by unfold BX;rw[if_pos hn]
  rw[e]at h1 ⊢
  have e2:=IV h (JE hn).2
  have h3:w64i (p.i+1)=p.i+1:=e2
  rw[h3]at hb
  exact h1.trans (Dh h1.ok (by rw[e2];exact hb.1.2) (JE hn).1)
 split
 ·rename_i hb
  have h1:=key _ hb
  have h2:=h1.trans (E8 h1.ok)
  exact h2.trans (BE h2.ok)
 split
 ·rename_i hb
  have h1:=key _ hb
  exact h1.trans (Rq h1.ok)
 ·exact E8 h
theorem Vo {st:Pr→R Sm} (hu:∀p,okP p→Nx p (st p).2):∀(k:Nat) (l:List Sm) (p:Pr),okP p→Nx p (stmtsL st k l p).2
 |0,l,p,h=>.refl h
 |k+1,l,p,h=>by
  simp only[stmtsL]
  split
  ·split
   ·rename_i hi;exact B7 h hi
   ·split
    ·exact F2 51 h
    ·have h1:=hu p h
     exact h1.trans (Vo hu k _ _ h1.ok)
  ·exact .refl h
theorem Vp {st:Pr→R Sm} (hu:∀p,okP p→Nx p (st p).2) {p:Pr} (h:okP p):Nx p (stmtsW st p).2:=Vo hu _ _ _ h
theorem Oh {st:Pr→R Sm} (hu:∀p,okP p→Nx p (st p).2) {p:Pr} (h:okP p):Nx p (blkW st p).2:=by
 unfold blkW
 split
 ·rename_i hi
  split
  ·rename_i hb
   have h1:=Fl h hb (BB hi).2
   exact P9 h hb (h1.trans (Vp hu h1.ok))
  ·rename_i hb;exact M8 h (by simpa using hb)
 ·exact F2 51 h
theorem TQ {p:Pr} {t:List UInt8} (h:okP p) (hi:isT t p=true):Nx p (ifC p).2:=by
 have h1:=B7 h hi
 have h2:=h1.trans (BE (t:=[40]) h1.ok)
 exact h2.trans (R0 h2.ok)
theorem Ql {st:Pr→R Sm} (hu:∀p,okP p→Nx p (st p).2) {p:Pr} {t:List UInt8} (h:okP p) (hi:isT t p=true):Nx p (ifB (blkW st) p).2:=by
 have h1:=TQ h hi
 have h2:=h1.trans (BE (t:=[41]) h1.ok)
 exact h2.trans (Oh hu h2.ok)
theorem ld {st:Pr→R Sm} (hu:∀p,okP p→Nx p (st p).2) (no:Int) {p:Pr} (h:okP p):Nx p (II st no p).2:=by
 unfold II
 split
 ·rename_i hi
  have h1:=B7 h hi
  have h2:=h1.trans (E8 h1.ok)
  exact h2.trans (BE h2.ok)
 split
 ·rename_i hi
  have h1:=TQ h hi
  have h2:=h1.trans (BE (t:=[41]) h1.ok)
  exact h2.trans (BE h2.ok)
 split
 ·rename_i hi;exact Ql hu h hi
 split
 ·rename_i hi
  split
  ·rename_i hi2
   have h1:=Ql hu h hi
   have h2:=h1.trans (B7 h1.ok hi2)
   exact h2.trans (Oh hu h2.ok)
  ·exact Ql hu h hi
 split
 ·rename_i hi
  have h1:=B7 h hi
  have h2:=h1.trans (FP h1.ok)
  have h3:=h2.trans (BE (t:=[61]) h2.ok)
  have h4:=h3.trans (E8 h3.ok)
  exact h4.trans (BE h4.ok)
 have hn:=FP h
 split
 ·rename_i hi
  have h1:=hn.trans (B7 hn.ok hi)
  have h2:=h1.trans (Rq h1.ok)
  exact h2.trans (BE h2.ok)
 split
 ·rename_i hi
  have h1:=hn.trans (B7 hn.ok hi)
  have h2:=h1.trans (E8 h1.ok)
  have h3:=h2.trans (BE (t:=[93]) h2.ok)
  have h4:=h3.trans (BE (t:=[61]) h3.ok)
  have h5:=h4.trans (E8 h4.ok)
  exact h5.trans (BE h5.ok)
 ·have h1:=hn.trans (BE (t:=[61]) hn.ok)
  have h2:=h1.trans (Wv h1.ok)
  exact h2.trans (BE h2.ok)
theorem N9:∀(f:Nat) (p:Pr),okP p→Nx p (C1 f p).2
 |0,p,h=>.refl h
 |f+1,p,h=>by
  simp only[C1]
  split
  ·exact F2 53 h
  ·have h1:=TP h
   exact h1.trans (ld (N9 f) _ h1.ok)
theorem aR {t:List UInt8} {p:Pr} (h:okP p) (hb:ahB t p=true):nameB p=true∧p.i+1<(p.l.length:Int)∧IntKind.i64.wrap (p.i+1)=p.i+1∧((p.l.getD (p.i+1).toNat tk0).t==t)=true:=by
 have n5:IntKind.i64.wrap (p.i+1)=p.i+1:=by obtain⟨h1,h2,h3,_⟩:=h;exact wrap_i64 (by omega) (by omega)
 unfold ahB tkA at hb
 simp only[w64i,n5,Bool.and_eq_true,decide_eq_true_eq]at hb
 exact⟨hb.1.1,hb.1.2,n5,hb.2⟩
theorem Ww {t:List UInt8} {p:Pr} (h:okP p) (hb:ahB t p=true):Nx p (adv (BX p)):=by
 obtain⟨hn,h2,h3,_⟩:=aR h hb
 have h1:=FP h
 have e:BX p=adv p:=by unfold BX;rw[if_pos hn]
 rw[e]at h1 ⊢
 have e2:=IV h (JE hn).2
 exact h1.trans (Dh h1.ok (by rw[e2];exact h2) (JE hn).1)
theorem Oi {t:List UInt8} {p q:Pr} (h:okP q) (hi:p.i≤q.i) (h0:(B2 t q).e=0):p.i+1≤(B2 t q).i:=by rw[Tp h h0];omega
theorem lf {st:Pr→R Sm} (hu:∀p,okP p→Nx p (st p).2) (no:Int) {p:Pr} (h:okP p) (h0:(II st no p).2.e=0):p.i+1≤(II st no p).2.i:=by
 have hB:∀{t:List UInt8},isT t p=true→p.i+1≤(ifB (blkW st) p).2.i:=by
  intro t hi
  have h1:=B7 h hi
  have h2:=BE (t:=[40]) h1.ok
  have h3:=h2.trans (R0 h2.ok)
  have h4:=h3.trans (BE (t:=[41]) h3.ok)
  have h5:=(h4.trans (Oh hu h4.ok)).i
  rw[IV h (BB hi).2]at h5
  exact h5
 have hn:=FP h
 revert h0
 unfold II
 split
 ·rename_i hi
  intro h0
  have h1:=B7 h hi
  have h2:=h1.trans (E8 h1.ok)
  exact Oi h2.ok h2.i h0
 split
 ·rename_i hi
  intro h0
  have h1:=TQ h hi
  have h2:=h1.trans (BE (t:=[41]) h1.ok)
  exact Oi h2.ok h2.i h0
 split
 ·rename_i hi;exact fun _=>hB hi
 split
 ·rename_i hi
  split
  ·rename_i hi2
   intro _
   have h1:=Ql hu h hi
   have h2:=B7 h1.ok hi2
   have h3:=(h2.trans (Oh hu h2.ok)).i
   exact Int.le_trans (hB hi) h3
  ·exact fun _=>hB hi
 split
 ·rename_i hi
  intro h0
  have h1:=B7 h hi
  have h2:=h1.trans (FP h1.ok)
  have h3:=h2.trans (BE (t:=[61]) h2.ok)
  have h4:=h3.trans (E8 h3.ok)
  exact Oi h4.ok h4.i h0
 split
 ·rename_i hi
  intro h0
  have h1:=hn.trans (B7 hn.ok hi)
  have h2:=h1.trans (Rq h1.ok)
  exact Oi h2.ok h2.i h0
 split
 ·rename_i hi
  intro h0
  have h1:=hn.trans (B7 hn.ok hi)
  have h2:=h1.trans (E8 h1.ok)
  have h3:=h2.trans (BE (t:=[93]) h2.ok)
  have h4:=h3.trans (BE (t:=[61]) h3.ok)
  have h5:=h4.trans (E8 h4.ok)
  exact Oi h5.ok h5.i h0
 ·intro h0
  have h1:=hn.trans (BE (t:=[61]) hn.ok)
  have h2:=h1.trans (Wv h1.ok)
  exact Oi h2.ok h2.i h0
theorem ff {c:Int} (hc:c≠0) (p:Pr):(CJ c p).e≠0:=by
 unfold CJ
 split
 ·exact hc
 ·rename_i h;simpa using h
theorem cQ (f:Nat) {p:Pr} (h:okP p) (h0:(C1 (f+1) p).2.e=0):p.i+1≤(C1 (f+1) p).2.i:=by
 revert h0
 simp only[C1]
 split
 ·exact fun h0=>absurd h0 (ff (by decide) p)
 ·exact fun h0=>lf (N9 f) _ (TP h).ok h0
theorem WV {f:Nat} {p q:Pr} (h:Nx p q) (hd:dpU f p):dpU f q:=by unfold dpU;rw[h.d];exact hd
end Go.Proofs.Ytjnnmindcbgjhaa
