/- Rows of arguments, variables, statements. No conditions but those in each statement. -/
import Derived.Test.YtjnnmindcbgjhaaGs
import Derived.Test.YtjnnmindcbgjhaaPn
set_option linter.unusedVariables false
set_option linter.unusedSimpArgs false
namespace Go.Proofs.Ytjnnmindcbgjhaa
open Go Go.Sy Go.RowKit
def Ar.c (a:Ar):List C:=[.v (.bool a.p),.v (.string (bs a.s)),exC a.e]
def zAc:List C:=[.v (.bool false),.v (.string (bs [])),.v (.pointer none)]
theorem y9:zT zAc=none:=rfl
attribute [go_sem] y9
def Vr.c (v:Vr):List C:=[.v (.string (bs v.s)),.v (.bool v.p)]
def zVc:List C:=[.v (.string (bs [])),.v (.bool false)]
theorem yA:zT zVc=none:=rfl
attribute [go_sem] yA
def Sm.k:Sm→Int| .mk k _ _ _ _ _ _ _ _ _=>k
def Sm.x:Sm→List UInt8| .mk _ x _ _ _ _ _ _ _ _=>x
def Sm.y:Sm→List UInt8| .mk _ _ y _ _ _ _ _ _ _=>y
def Sm.e:Sm→Ex| .mk _ _ _ e _ _ _ _ _ _=>e
def Sm.f:Sm→Ex| .mk _ _ _ _ f _ _ _ _ _=>f
def Sm.cd:Sm→Cd| .mk _ _ _ _ _ c _ _ _ _=>c
def Sm.ar:Sm→List Ar| .mk _ _ _ _ _ _ a _ _ _=>a
def Sm.th:Sm→List Sm| .mk _ _ _ _ _ _ _ t _ _=>t
def Sm.el:Sm→List Sm| .mk _ _ _ _ _ _ _ _ e _=>e
def Sm.no:Sm→Int| .mk _ _ _ _ _ _ _ _ _ n=>n
theorem Gc (s:Sm):s.r=[dI s.k,dS s.x,dS s.y,s.e.d,s.f.d,s.cd.d,.sl zAr (s.ar.map Ar.r),.sl zSm (s.th.map Sm.r),.sl zSm (s.el.map Sm.r),dI s.no]:=by
 cases s;simp only[Sm.r,aO,Sm.k,Sm.x,Sm.y,Sm.e,Sm.f,Sm.cd,Sm.ar,Sm.th,Sm.el,Sm.no]
def Sm.c (s:Sm):List C:=[.v (.int .i64 s.k),.v (.string (bs s.x)),.v (.string (bs s.y)),exC s.e,exC s.f,cdC s.cd,.d (.sl zAr (s.ar.map Ar.r)),.d (.sl zSm (s.th.map Sm.r)),.d (.sl zSm (s.el.map Sm.r)),.v (.int .i64 s.no)]
def zSc:List C:=[.v (.int .i64 0),.v (.string (bs [])),.v (.string (bs [])),.v (.pointer none),.v (.pointer none),.v (.pointer none),.v (.slice none 0 0),.v (.slice none 0 0),.v (.slice none 0 0),.v (.int .i64 0)]
theorem yB:zT zSc=none:=rfl
attribute [go_sem] yB
def Fn.c (f:Fn):List C:=[.v (.string (bs f.name)),.d (.sl zVr (f.ps.map Vr.r)),.d (.sl zVr (f.ls.map Vr.r)),.d (.sl zSm (f.body.map Sm.r))]
abbrev fn0:Fn:=⟨[],[],[],[]⟩
section
variable {A:Type} {l:List A}
structure RowsD (f:A→List C) (g:A→List D) (n:Nat):Prop where
 nm:∀a,∀c∈f a,C.names c=[]
 st:∀a,∀c∈f a,C.stor c=true
 td:∀a,Eg (f a)=some (g a)
 len:∀a,(f a).length=n
theorem yC (k t:Nat) {c:C} (h:c.names=[]) (h2:C.stor c=true):mvC k t c=c:=by
 cases c<;>first|rfl|(simp[C.stor]at h2;done)|(simp[C.names]at h;done)|(rename_i f caps;simp only[C.names]at h;simp[mvC,h])
theorem yD (k:Nat) (z:List D) (es:List (List D)) {c:C} (h:c.names=[]) (h2:C.stor c=true):fzC k z es c=c:=by
 cases c<;>first|rfl|(simp[C.stor]at h2;done)|(simp[C.names]at h;done)|(rename_i f caps;simp only[C.names]at h;simp[fzC,h])
theorem XQ {σ:C→C} {r:List C} (h:∀c∈r,σ c=c):r.map σ=r:=by
 induction r with
 |nil=>rfl
 |cons c r ih=>rw[List.map_cons,h c (List.mem_cons_self ..),ih fun c hc=>h c (List.mem_cons_of_mem _ hc)]
variable {f:A→List C} {g:A→List D} {n:Nat} (hR:RowsD f g n)
include hR
theorem RowsD.fn:List.flatMap (fun r=>List.flatMap C.names r) (l.map f)=[]:=vL f hR.nm l
theorem RowsD.ds:D7 (l.map f)=some (l.map g):=FX f hR.td l
theorem RowsD.ds1 (r:List C):D7 (l.map f++[r])=(Eg r).map fun d=>l.map g++[d]:=by
 induction l with
 |nil=>simp only[List.map_nil,List.nil_append,D7];cases Eg r<;>rfl
 |cons a l ih=>simp only[List.map_cons,List.cons_append,D7,hR.td a,ih];cases Eg r<;>rfl
theorem RowsD.mv (k t:Nat):(l.map f).map (fun r=>r.map (mvC k t))=l.map f:=G1 f (fun a=>XQ fun c hc=>yC k t (hR.nm a c hc) (hR.st a c hc)) l
theorem RowsD.fz (k:Nat) (z:List D) (es:List (List D)):(l.map f).map (fun r=>r.map (fzC k z es))=l.map f:=G1 f (fun a=>XQ fun c hc=>yD k z es (hR.nm a c hc) (hR.st a c hc)) l
theorem RowsD.stor:BS (l.map f):=UE f hR.st l
theorem RowsD.cl:Qz (l.map f)=true:=gr f hR.nm l
end
theorem Gd:RowsD Ar.c Ar.r 3:=by
 refine⟨fun a c hc=>?_,fun a c hc=>?_,fun a=>?_,fun a=>rfl⟩
 ·simp only[Ar.c,List.mem_cons,List.not_mem_nil,or_false]at hc;rcases hc with rfl|rfl|rfl<;>first|rfl|exact Ge _
 ·simp only[Ar.c,List.mem_cons,List.not_mem_nil,or_false]at hc;rcases hc with rfl|rfl|rfl<;>first|rfl|exact TL _
 ·simp only[Ar.c,Eg,toD,VX,Ar.r]
theorem CR:RowsD Vr.c Vr.r 2:=by
 refine⟨fun a c hc=>?_,fun a c hc=>?_,fun a=>?_,fun a=>rfl⟩
 ·simp only[Vr.c,List.mem_cons,List.not_mem_nil,or_false]at hc;rcases hc with rfl|rfl<;>rfl
 ·simp only[Vr.c,List.mem_cons,List.not_mem_nil,or_false]at hc;rcases hc with rfl|rfl<;>rfl
 ·simp only[Vr.c,Eg,toD,Vr.r]
theorem GF:RowsD Sm.c Sm.r 10:=by
 refine⟨fun a c hc=>?_,fun a c hc=>?_,fun a=>?_,fun a=>rfl⟩
 ·simp only[Sm.c,List.mem_cons,List.not_mem_nil,or_false]at hc;rcases hc with rfl|rfl|rfl|rfl|rfl|rfl|rfl|rfl|rfl|rfl<;>first|rfl|exact Ge _|exact J8 _
 ·simp only[Sm.c,List.mem_cons,List.not_mem_nil,or_false]at hc;rcases hc with rfl|rfl|rfl|rfl|rfl|rfl|rfl|rfl|rfl|rfl<;>first|rfl|exact TL _|exact Xh _
 ·rw[Gc];simp only[Sm.c,Eg,toD,VX,aV]
end Go.Proofs.Ytjnnmindcbgjhaa
namespace Go.Proofs.Ytjnnmindcbgjhaa
open Go Go.Sy Go.RowKit
abbrev Ry:List UInt8:=[110,117,108,108]
abbrev TC:List UInt8:=[114,101,116,117,114,110]
abbrev RB:List UInt8:=[97,115,115,101,114,116]
abbrev tIf:List UInt8:=[105,102]
abbrev TD:List UInt8:=[119,104,105,108,101]
abbrev Hc:List UInt8:=[101,108,115,101]
abbrev RC:List UInt8:=[118,97,114]
abbrev tPtr:List UInt8:=[112,116,114]
abbrev tFn:List UInt8:=[102,110]
structure VR where
 k:Int
 y:List UInt8
 e:Ex
 a:Option (List Ar)
def ahB (t:List UInt8) (p:Pr):Bool:=nameB p&&decide (w64i (p.i+1)<(p.l.length:Int))&&(tkA p (w64i (p.i+1))).t==t
def CI (p:Pr):R VR:=
 if isT Ry p=true then (⟨3,[],.nil,none⟩,adv p)
 else if isT [38] p=true then (⟨1,CY (adv p),.nil,none⟩,BE (adv p))
 else if isT [42] p=true then (⟨4,CY (adv p),.nil,none⟩,BE (adv p))
 else if ahB [91] p=true then (⟨6,CY p,(exS (adv (BE p))).1,none⟩,AX [93] (exS (adv (BE p))).2)
 else if ahB [40] p=true then (⟨8,CY p,.nil,some (Ew (adv (BE p))).1⟩,(Ew (adv (BE p))).2)
 else (⟨0,[],(exS p).1,none⟩,(exS p).2)
def nxt (p:Pr):Pr:={ p with n:=w64i (p.n+1) }
def VL (p:Pr):Bool:=nameB p||isT [42] p||isT TC p||isT RB p||isT tIf p||isT TD p
def sm0 (no:Int):Sm:=.mk 0 [] [] .nil .nil .nil [] [] [] no
def Fh (st:Pr→R Sm):Nat→List Sm→Pr→R (List Sm)
 |0,l,p=>(l,p)
 |k+1,l,p=>
  if (p.e==0)=true then
   (
    if isT [125] p=true then (l,adv p)
    else if decide ((p.l.length:Int)≤p.i)=true then ([],C7 51 p)
    else Fh st k (l++[(st p).1]) (st p).2)
  else (l,p)
def GH (st:Pr→R Sm) (p:Pr):R (List Sm):=Fh st (p.l.length+1) [] p
def D2 (st:Pr→R Sm) (p:Pr):R (List Sm):=
 if isT [123] p=true then
  (if DH p=true then ((GH st (adv (Ai p))).1,shut (GH st (adv (Ai p))).2) else ([],Ai p))
 else ([],C7 51 p)
def ifC (p:Pr):R Cd:=cdS (AX [40] (adv p))
def ifB (blk:Pr→R (List Sm)) (p:Pr):R (List Sm):=blk (AX [41] (ifC p).2)
def Et (st:Pr→R Sm) (no:Int) (p:Pr):R Sm:=
 if isT TC p=true then (.mk 9 [] [] (exS (adv p)).1 .nil .nil [] [] [] no,AX [59] (exS (adv p)).2)
 else if isT RB p=true then (.mk 12 [] [] .nil .nil (ifC p).1 [] [] [] no,AX [59] (AX [41] (ifC p).2))
 else if isT TD p=true then (.mk 11 [] [] .nil .nil (ifC p).1 [] (ifB (D2 st) p).1 [] no,(ifB (D2 st) p).2)
 else if isT tIf p=true then
  (if isT Hc (ifB (D2 st) p).2=true then
   (.mk 10 [] [] .nil .nil (ifC p).1 [] (ifB (D2 st) p).1 (D2 st (adv (ifB (D2 st) p).2)).1 no,(D2 st (adv (ifB (D2 st) p).2)).2)
   else (.mk 10 [] [] .nil .nil (ifC p).1 [] (ifB (D2 st) p).1 [] no,(ifB (D2 st) p).2))
 else if isT [42] p=true then
  (.mk 5 (CY (adv p)) [] (exS (AX [61] (BE (adv p)))).1 .nil .nil [] [] [] no,AX [59] (exS (AX [61] (BE (adv p)))).2)
 else if isT [40] (BE p)=true then
  (.mk 8 [] (CY p) .nil .nil .nil (Ew (adv (BE p))).1 [] [] no,AX [59] (Ew (adv (BE p))).2)
 else if isT [91] (BE p)=true then
  (.mk 7 [] (CY p) (exS (adv (BE p))).1 (exS (AX [61] (AX [93] (exS (adv (BE p))).2))).1 .nil [] [] [] no,AX [59] (exS (AX [61] (AX [93] (exS (adv (BE p))).2))).2)
 else (.mk (CI (AX [61] (BE p))).1.k (CY p) (CI (AX [61] (BE p))).1.y (CI (AX [61] (BE p))).1.e .nil .nil ((CI (AX [61] (BE p))).1.a.getD []) [] [] no,AX [59] (CI (AX [61] (BE p))).2)
def B6:Nat→Pr→R Sm
 |0,p=>(sm0 p.n,p)
 |f+1,p=>if (VL p&&decide (200≤p.n))=true then (sm0 p.n,C7 53 p) else Et (B6 f) p.n (nxt p)
abbrev A4N:Pr→R (List Sm):=GH (B6 41)
theorem VM {p:Pr} (h:okP p):Nx p (nxt p):=⟨h,rfl,rfl,Int.le_refl _,rfl,fun _=>⟨rfl,rfl⟩⟩
theorem VN {p:Pr} (h:okP p):Nx p (CI p).2:=by
 unfold CI
 split
 ·rename_i hi;exact B8 h hi
 split
 ·rename_i hi;have h1:=B8 h hi;exact h1.trans (Fj h1.ok)
 split
 ·rename_i hi;have h1:=B8 h hi;exact h1.trans (Fj h1.ok)
 have key:∀t,ahB t p=true→Nx p (adv (BE p)):=by
  intro t hb
  unfold ahB at hb
  simp only[Bool.and_eq_true,decide_eq_true_eq]at hb
  have hn:=hb.1.1
  have h1:=Fj h
  have e:BE p=adv p:=by unfold BE;rw[if_pos hn]
  rw[e]at h1 ⊢
  have e2:=Ek h (IP hn).2
  have h3:w64i (p.i+1)=p.i+1:=e2
  rw[h3]at hb
  exact h1.trans (DI h1.ok (by rw[e2];exact hb.1.2) (IP hn).1)
 split
 ·rename_i hb
  have h1:=key _ hb
  have h2:=h1.trans (Dr h1.ok)
  exact h2.trans (BH h2.ok)
 split
 ·rename_i hb
  have h1:=key _ hb
  exact h1.trans (QY h1.ok)
 ·exact Dr h
theorem UM {st:Pr→R Sm} (hu:∀p,okP p→Nx p (st p).2):∀(k:Nat) (l:List Sm) (p:Pr),okP p→Nx p (Fh st k l p).2
 |0,l,p,h=>.refl h
 |k+1,l,p,h=>by
  simp only[Fh]
  split
  ·split
   ·rename_i hi;exact B8 h hi
   ·split
    ·exact Ff 51 h
    ·have h1:=hu p h
     exact h1.trans (UM hu k _ _ h1.ok)
  ·exact .refl h
theorem UN {st:Pr→R Sm} (hu:∀p,okP p→Nx p (st p).2) {p:Pr} (h:okP p):Nx p (GH st p).2:=UM hu _ _ _ h
theorem Lq {st:Pr→R Sm} (hu:∀p,okP p→Nx p (st p).2) {p:Pr} (h:okP p):Nx p (D2 st p).2:=by
 unfold D2
 split
 ·rename_i hi
  split
  ·rename_i hb
   have h1:=Fg h hb (BB hi).2
   exact HF h hb (h1.trans (UN hu h1.ok))
  ·rename_i hb;exact MT h (by simpa using hb)
 ·exact Ff 51 h
theorem VO {p:Pr} {t:List UInt8} (h:okP p) (hi:isT t p=true):Nx p (ifC p).2:=by
 have h1:=B8 h hi
 have h2:=h1.trans (BH (t:=[40]) h1.ok)
 exact h2.trans (Po h2.ok)
theorem Rz {st:Pr→R Sm} (hu:∀p,okP p→Nx p (st p).2) {p:Pr} {t:List UInt8} (h:okP p) (hi:isT t p=true):Nx p (ifB (D2 st) p).2:=by
 have h1:=VO h hi
 have h2:=h1.trans (BH (t:=[41]) h1.ok)
 exact h2.trans (Lq hu h2.ok)
theorem jI {st:Pr→R Sm} (hu:∀p,okP p→Nx p (st p).2) (no:Int) {p:Pr} (h:okP p):Nx p (Et st no p).2:=by
 unfold Et
 split
 ·rename_i hi
  have h1:=B8 h hi
  have h2:=h1.trans (Dr h1.ok)
  exact h2.trans (BH h2.ok)
 split
 ·rename_i hi
  have h1:=VO h hi
  have h2:=h1.trans (BH (t:=[41]) h1.ok)
  exact h2.trans (BH h2.ok)
 split
 ·rename_i hi;exact Rz hu h hi
 split
 ·rename_i hi
  split
  ·rename_i hi2
   have h1:=Rz hu h hi
   have h2:=h1.trans (B8 h1.ok hi2)
   exact h2.trans (Lq hu h2.ok)
  ·exact Rz hu h hi
 split
 ·rename_i hi
  have h1:=B8 h hi
  have h2:=h1.trans (Fj h1.ok)
  have h3:=h2.trans (BH (t:=[61]) h2.ok)
  have h4:=h3.trans (Dr h3.ok)
  exact h4.trans (BH h4.ok)
 have hn:=Fj h
 split
 ·rename_i hi
  have h1:=hn.trans (B8 hn.ok hi)
  have h2:=h1.trans (QY h1.ok)
  exact h2.trans (BH h2.ok)
 split
 ·rename_i hi
  have h1:=hn.trans (B8 hn.ok hi)
  have h2:=h1.trans (Dr h1.ok)
  have h3:=h2.trans (BH (t:=[93]) h2.ok)
  have h4:=h3.trans (BH (t:=[61]) h3.ok)
  have h5:=h4.trans (Dr h4.ok)
  exact h5.trans (BH h5.ok)
 ·have h1:=hn.trans (BH (t:=[61]) hn.ok)
  have h2:=h1.trans (VN h1.ok)
  exact h2.trans (BH h2.ok)
theorem Nt:∀(f:Nat) (p:Pr),okP p→Nx p (B6 f p).2
 |0,p,h=>.refl h
 |f+1,p,h=>by
  simp only[B6]
  split
  ·exact Ff 53 h
  ·have h1:=VM h
   exact h1.trans (jI (Nt f) _ h1.ok)
theorem Yk {t:List UInt8} {p:Pr} (h:okP p) (hb:ahB t p=true):nameB p=true∧p.i+1<(p.l.length:Int)∧IntKind.i64.wrap (p.i+1)=p.i+1∧((p.l.getD (p.i+1).toNat tk0).t==t)=true:=by
 have n5:IntKind.i64.wrap (p.i+1)=p.i+1:=by obtain⟨h1,h2,h3,_⟩:=h;exact wrap_i64 (by omega) (by omega)
 unfold ahB tkA at hb
 simp only[w64i,n5,Bool.and_eq_true,decide_eq_true_eq]at hb
 exact⟨hb.1.1,hb.1.2,n5,hb.2⟩
theorem a7 {t:List UInt8} {p:Pr} (h:okP p) (hb:ahB t p=true):Nx p (adv (BE p)):=by
 obtain⟨hn,h2,h3,_⟩:=Yk h hb
 have h1:=Fj h
 have e:BE p=adv p:=by unfold BE;rw[if_pos hn]
 rw[e]at h1 ⊢
 have e2:=Ek h (IP hn).2
 exact h1.trans (DI h1.ok (by rw[e2];exact h2) (IP hn).1)
theorem Nu {t:List UInt8} {p q:Pr} (h:okP q) (hi:p.i≤q.i) (h0:(AX t q).e=0):p.i+1≤(AX t q).i:=by rw[SK h h0];omega
theorem jJ {st:Pr→R Sm} (hu:∀p,okP p→Nx p (st p).2) (no:Int) {p:Pr} (h:okP p) (h0:(Et st no p).2.e=0):p.i+1≤(Et st no p).2.i:=by
 have hB:∀{t:List UInt8},isT t p=true→p.i+1≤(ifB (D2 st) p).2.i:=by
  intro t hi
  have h1:=B8 h hi
  have h2:=BH (t:=[40]) h1.ok
  have h3:=h2.trans (Po h2.ok)
  have h4:=h3.trans (BH (t:=[41]) h3.ok)
  have h5:=(h4.trans (Lq hu h4.ok)).i
  rw[Ek h (BB hi).2]at h5
  exact h5
 have hn:=Fj h
 revert h0
 unfold Et
 split
 ·rename_i hi
  intro h0
  have h1:=B8 h hi
  have h2:=h1.trans (Dr h1.ok)
  exact Nu h2.ok h2.i h0
 split
 ·rename_i hi
  intro h0
  have h1:=VO h hi
  have h2:=h1.trans (BH (t:=[41]) h1.ok)
  exact Nu h2.ok h2.i h0
 split
 ·rename_i hi;exact fun _=>hB hi
 split
 ·rename_i hi
  split
  ·rename_i hi2
   intro _
   have h1:=Rz hu h hi
   have h2:=B8 h1.ok hi2
   have h3:=(h2.trans (Lq hu h2.ok)).i
   exact Int.le_trans (hB hi) h3
  ·exact fun _=>hB hi
 split
 ·rename_i hi
  intro h0
  have h1:=B8 h hi
  have h2:=h1.trans (Fj h1.ok)
  have h3:=h2.trans (BH (t:=[61]) h2.ok)
  have h4:=h3.trans (Dr h3.ok)
  exact Nu h4.ok h4.i h0
 split
 ·rename_i hi
  intro h0
  have h1:=hn.trans (B8 hn.ok hi)
  have h2:=h1.trans (QY h1.ok)
  exact Nu h2.ok h2.i h0
 split
 ·rename_i hi
  intro h0
  have h1:=hn.trans (B8 hn.ok hi)
  have h2:=h1.trans (Dr h1.ok)
  have h3:=h2.trans (BH (t:=[93]) h2.ok)
  have h4:=h3.trans (BH (t:=[61]) h3.ok)
  have h5:=h4.trans (Dr h4.ok)
  exact Nu h5.ok h5.i h0
 ·intro h0
  have h1:=hn.trans (BH (t:=[61]) hn.ok)
  have h2:=h1.trans (VN h1.ok)
  exact Nu h2.ok h2.i h0
theorem dV {c:Int} (hc:c≠0) (p:Pr):(C7 c p).e≠0:=by
 unfold C7
 split
 ·exact hc
 ·rename_i h;simpa using h
theorem a8 (f:Nat) {p:Pr} (h:okP p) (h0:(B6 (f+1) p).2.e=0):p.i+1≤(B6 (f+1) p).2.i:=by
 revert h0
 simp only[B6]
 split
 ·exact fun h0=>absurd h0 (dV (by decide) p)
 ·exact fun h0=>jJ (Nt f) _ (VM h).ok h0
theorem Uw {f:Nat} {p q:Pr} (h:Nx p q) (hd:dpU f p):dpU f q:=by unfold dpU;rw[h.d];exact hd
end Go.Proofs.Ytjnnmindcbgjhaa
