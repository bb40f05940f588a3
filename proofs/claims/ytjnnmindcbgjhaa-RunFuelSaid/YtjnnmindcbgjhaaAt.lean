/- Rows of arguments, variables, statements. No conditions but those in each statement. -/
import Derived.Test.YtjnnmindcbgjhaaGs
import Derived.Test.YtjnnmindcbgjhaaPn
set_option linter.unusedVariables false
set_option linter.unusedSimpArgs false
namespace Go.Proofs.Ytjnnmindcbgjhaa
open Go Go.Sy Go.RowKit
def Ar.c (a:Ar):List C:=[.v (.bool a.p),.v (.string (bs a.s)),exC a.e]
def zAc:List C:=[.v (.bool false),.v (.string (bs [])),.v (.pointer none)]
theorem A05:zT zAc=none:=rfl
attribute [go_sem] A05
def Vr.c (v:Vr):List C:=[.v (.string (bs v.s)),.v (.bool v.p)]
def zVc:List C:=[.v (.string (bs [])),.v (.bool false)]
theorem A06:zT zVc=none:=rfl
attribute [go_sem] A06
def Sm.k:Sm→Int| .mk k _ _ _ _ _ _ _ _ _=>k
def Sm.x:Sm→List UInt8| .mk _ x _ _ _ _ _ _ _ _=>x
def Sm.y:Sm→List UInt8| .mk _ _ y _ _ _ _ _ _ _=>y
def Sm.e:Sm→Ex| .mk _ _ _ e _ _ _ _ _ _=>e
def Sm.f:Sm→Ex| .mk _ _ _ _ f _ _ _ _ _=>f
def Sm.cd:Sm→Cd| .mk _ _ _ _ _ c _ _ _ _=>c
def Sm.ar:Sm→List Ar| .mk _ _ _ _ _ _ a _ _ _=>a
def Sm.th:Sm→List Sm| .mk _ _ _ _ _ _ _ t _ _=>t
def Sm.el:Sm→List Sm| .mk _ _ _ _ _ _ _ _ e _=>e
def Sm.no:Sm→Int| .mk _ _ _ _ _ _ _ _ _ n=>n
theorem H7 (s:Sm):s.r=[dI s.k,dS s.x,dS s.y,s.e.d,s.f.d,s.cd.d,.sl zAr (s.ar.map Ar.r),.sl zSm (s.th.map Sm.r),.sl zSm (s.el.map Sm.r),dI s.no]:=by
 cases s;simp only[Sm.r,bw,Sm.k,Sm.x,Sm.y,Sm.e,Sm.f,Sm.cd,Sm.ar,Sm.th,Sm.el,Sm.no]
def Sm.c (s:Sm):List C:=[.v (.int .i64 s.k),.v (.string (bs s.x)),.v (.string (bs s.y)),exC s.e,exC s.f,cdC s.cd,.d (.sl zAr (s.ar.map Ar.r)),.d (.sl zSm (s.th.map Sm.r)),.d (.sl zSm (s.el.map Sm.r)),.v (.int .i64 s.no)]
def zSc:List C:=[.v (.int .i64 0),.v (.string (bs [])),.v (.string (bs [])),.v (.pointer none),.v (.pointer none),.v (.pointer none),.v (.slice none 0 0),.v (.slice none 0 0),.v (.slice none 0 0),.v (.int .i64 0)]
theorem A07:zT zSc=none:=rfl
attribute [go_sem] A07
def Fn.c (f:Fn):List C:=[.v (.string (bs f.name)),.d (.sl zVr (f.ps.map Vr.r)),.d (.sl zVr (f.ls.map Vr.r)),.d (.sl zSm (f.body.map Sm.r))]
abbrev fn0:Fn:=⟨[],[],[],[]⟩
section
variable {A:Type} {l:List A}
structure RowsD (f:A→List C) (g:A→List D) (n:Nat):Prop where
 nm:∀a,∀c∈f a,C.names c=[]
 st:∀a,∀c∈f a,C.stor c=true
 td:∀a,Eu (f a)=some (g a)
 len:∀a,(f a).length=n
theorem A08 (k t:Nat) {c:C} (h:c.names=[]) (h2:C.stor c=true):mvC k t c=c:=by
 cases c<;>first|rfl|(simp[C.stor]at h2;done)|(simp[C.names]at h;done)|(rename_i f caps;simp only[C.names]at h;simp[mvC,h])
theorem A09 (k:Nat) (z:List D) (es:List (List D)) {c:C} (h:c.names=[]) (h2:C.stor c=true):fzC k z es c=c:=by
 cases c<;>first|rfl|(simp[C.stor]at h2;done)|(simp[C.names]at h;done)|(rename_i f caps;simp only[C.names]at h;simp[fzC,h])
theorem Yc {σ:C→C} {r:List C} (h:∀c∈r,σ c=c):r.map σ=r:=by
 induction r with
 |nil=>rfl
 |cons c r ih=>rw[List.map_cons,h c (List.mem_cons_self ..),ih fun c hc=>h c (List.mem_cons_of_mem _ hc)]
variable {f:A→List C} {g:A→List D} {n:Nat} (hR:RowsD f g n)
include hR
theorem RowsD.fn:List.flatMap (fun r=>List.flatMap C.names r) (l.map f)=[]:=xZ f hR.nm l
theorem RowsD.ds:DM (l.map f)=some (l.map g):=GX f hR.td l
theorem RowsD.ds1 (r:List C):DM (l.map f++[r])=(Eu r).map fun d=>l.map g++[d]:=by
 induction l with
 |nil=>simp only[List.map_nil,List.nil_append,DM];cases Eu r<;>rfl
 |cons a l ih=>simp only[List.map_cons,List.cons_append,DM,hR.td a,ih];cases Eu r<;>rfl
theorem RowsD.mv (k t:Nat):(l.map f).map (fun r=>r.map (mvC k t))=l.map f:=Gw f (fun a=>Yc fun c hc=>A08 k t (hR.nm a c hc) (hR.st a c hc)) l
theorem RowsD.fz (k:Nat) (z:List D) (es:List (List D)):(l.map f).map (fun r=>r.map (fzC k z es))=l.map f:=Gw f (fun a=>Yc fun c hc=>A09 k z es (hR.nm a c hc) (hR.st a c hc)) l
theorem RowsD.stor:BI (l.map f):=VX f hR.st l
theorem RowsD.cl:S3 (l.map f)=true:=jt f hR.nm l
end
theorem H8:RowsD Ar.c Ar.r 3:=by
 refine⟨fun a c hc=>?_,fun a c hc=>?_,fun a=>?_,fun a=>rfl⟩
 ·simp only[Ar.c,List.mem_cons,List.not_mem_nil,or_false]at hc;rcases hc with rfl|rfl|rfl<;>first|rfl|exact Ff _
 ·simp only[Ar.c,List.mem_cons,List.not_mem_nil,or_false]at hc;rcases hc with rfl|rfl|rfl<;>first|rfl|exact UQ _
 ·simp only[Ar.c,Eu,toD,Wu,Ar.r]
theorem CX:RowsD Vr.c Vr.r 2:=by
 refine⟨fun a c hc=>?_,fun a c hc=>?_,fun a=>?_,fun a=>rfl⟩
 ·simp only[Vr.c,List.mem_cons,List.not_mem_nil,or_false]at hc;rcases hc with rfl|rfl<;>rfl
 ·simp only[Vr.c,List.mem_cons,List.not_mem_nil,or_false]at hc;rcases hc with rfl|rfl<;>rfl
 ·simp only[Vr.c,Eu,toD,Vr.r]
theorem GY:RowsD Sm.c Sm.r 10:=by
 refine⟨fun a c hc=>?_,fun a c hc=>?_,fun a=>?_,fun a=>rfl⟩
 ·simp only[Sm.c,List.mem_cons,List.not_mem_nil,or_false]at hc;rcases hc with rfl|rfl|rfl|rfl|rfl|rfl|rfl|rfl|rfl|rfl<;>first|rfl|exact Ff _|exact H9 _
 ·simp only[Sm.c,List.mem_cons,List.not_mem_nil,or_false]at hc;rcases hc with rfl|rfl|rfl|rfl|rfl|rfl|rfl|rfl|rfl|rfl<;>first|rfl|exact UQ _|exact Yj _
 ·rw[H7];simp only[Sm.c,Eu,toD,Wu,cD]
end Go.Proofs.Ytjnnmindcbgjhaa
namespace Go.Proofs.Ytjnnmindcbgjhaa
open Go Go.Sy Go.RowKit
abbrev jx:List UInt8:=[110,117,108,108]
abbrev fL:List UInt8:=[114,101,116,117,114,110]
abbrev fM:List UInt8:=[97,115,115,101,114,116]
abbrev tIf:List UInt8:=[105,102]
abbrev fN:List UInt8:=[119,104,105,108,101]
abbrev jy:List UInt8:=[101,108,115,101]
abbrev A69:List UInt8:=[118,97,114]
abbrev tPtr:List UInt8:=[112,116,114]
abbrev tFn:List UInt8:=[102,110]
structure VR where
 k:Int
 y:List UInt8
 e:Ex
 a:Option (List Ar)
def ahB (t:List UInt8) (p:Pr):Bool:=nameB p&&decide (w64i (p.i+1)<(p.l.length:Int))&&(tkA p (w64i (p.i+1))).t==t
def EX (p:Pr):R VR:=
 if isT jx p=true then (⟨3,[],.nil,none⟩,adv p)
 else if isT [38] p=true then (⟨1,Cz (adv p),.nil,none⟩,BW (adv p))
 else if isT [42] p=true then (⟨4,Cz (adv p),.nil,none⟩,BW (adv p))
 else if ahB [91] p=true then (⟨6,Cz p,(exS (adv (BW p))).1,none⟩,B1 [93] (exS (adv (BW p))).2)
 else if ahB [40] p=true then (⟨8,Cz p,.nil,some (Gk (adv (BW p))).1⟩,(Gk (adv (BW p))).2)
 else (⟨0,[],(exS p).1,none⟩,(exS p).2)
def nxt (p:Pr):Pr:={ p with n:=w64i (p.n+1) }
def Zz (p:Pr):Bool:=nameB p||isT [42] p||isT fL p||isT fM p||isT tIf p||isT fN p
def sm0 (no:Int):Sm:=.mk 0 [] [] .nil .nil .nil [] [] [] no
def stmtsL (st:Pr→R Sm):Nat→List Sm→Pr→R (List Sm)
 |0,l,p=>(l,p)
 |k+1,l,p=>
  if (p.e==0)=true then
   (
    if isT [125] p=true then (l,adv p)
    else if decide ((p.l.length:Int)≤p.i)=true then ([],CI 51 p)
    else stmtsL st k (l++[(st p).1]) (st p).2)
  else (l,p)
def stmtsW (st:Pr→R Sm) (p:Pr):R (List Sm):=stmtsL st (p.l.length+1) [] p
def blkW (st:Pr→R Sm) (p:Pr):R (List Sm):=
 if isT [123] p=true then
  (if Et p=true then ((stmtsW st (adv (Bl p))).1,shut (stmtsW st (adv (Bl p))).2) else ([],Bl p))
 else ([],CI 51 p)
def ifC (p:Pr):R Cd:=cdS (B1 [40] (adv p))
def ifB (blk:Pr→R (List Sm)) (p:Pr):R (List Sm):=blk (B1 [41] (ifC p).2)
def Hy (st:Pr→R Sm) (no:Int) (p:Pr):R Sm:=
 if isT fL p=true then (.mk 9 [] [] (exS (adv p)).1 .nil .nil [] [] [] no,B1 [59] (exS (adv p)).2)
 else if isT fM p=true then (.mk 12 [] [] .nil .nil (ifC p).1 [] [] [] no,B1 [59] (B1 [41] (ifC p).2))
 else if isT fN p=true then (.mk 11 [] [] .nil .nil (ifC p).1 [] (ifB (blkW st) p).1 [] no,(ifB (blkW st) p).2)
 else if isT tIf p=true then
  (if isT jy (ifB (blkW st) p).2=true then
   (.mk 10 [] [] .nil .nil (ifC p).1 [] (ifB (blkW st) p).1 (blkW st (adv (ifB (blkW st) p).2)).1 no,(blkW st (adv (ifB (blkW st) p).2)).2)
   else (.mk 10 [] [] .nil .nil (ifC p).1 [] (ifB (blkW st) p).1 [] no,(ifB (blkW st) p).2))
 else if isT [42] p=true then
  (.mk 5 (Cz (adv p)) [] (exS (B1 [61] (BW (adv p)))).1 .nil .nil [] [] [] no,B1 [59] (exS (B1 [61] (BW (adv p)))).2)
 else if isT [40] (BW p)=true then
  (.mk 8 [] (Cz p) .nil .nil .nil (Gk (adv (BW p))).1 [] [] no,B1 [59] (Gk (adv (BW p))).2)
 else if isT [91] (BW p)=true then
  (.mk 7 [] (Cz p) (exS (adv (BW p))).1 (exS (B1 [61] (B1 [93] (exS (adv (BW p))).2))).1 .nil [] [] [] no,B1 [59] (exS (B1 [61] (B1 [93] (exS (adv (BW p))).2))).2)
 else (.mk (EX (B1 [61] (BW p))).1.k (Cz p) (EX (B1 [61] (BW p))).1.y (EX (B1 [61] (BW p))).1.e .nil .nil ((EX (B1 [61] (BW p))).1.a.getD []) [] [] no,B1 [59] (EX (B1 [61] (BW p))).2)
def C0:Nat→Pr→R Sm
 |0,p=>(sm0 p.n,p)
 |f+1,p=>if (Zz p&&decide (200≤p.n))=true then (sm0 p.n,CI 53 p) else Hy (C0 f) p.n (nxt p)
abbrev A6A:Pr→R (List Sm):=stmtsW (C0 41)
theorem T5 {p:Pr} (h:okP p):Nx p (nxt p):=⟨h,rfl,rfl,Int.le_refl _,rfl,fun _=>⟨rfl,rfl⟩⟩
theorem Wi {p:Pr} (h:okP p):Nx p (EX p).2:=by
 unfold EX
 split
 ·rename_i hi;exact B6 h hi
 split
 ·rename_i hi;have h1:=B6 h hi;exact h1.trans (FK h1.ok)
 split
 ·rename_i hi;have h1:=B6 h hi;exact h1.trans (FK h1.ok)
 have key:∀t,ahB t p=true→Nx p (adv (BW p)):=by
  intro t hb
  unfold ahB at hb
  simp only[Bool.and_eq_true,decide_eq_true_eq]at hb
  have hn:=hb.1.1
  have h1:=FK h
  have e:BW p=adv p:=by unfold BW;rw[if_pos hn]
  rw[e]at h1 ⊢
  have e2:=IA h (J2 hn).2
  have h3:w64i (p.i+1)=p.i+1:=e2
  rw[h3]at hb
  exact h1.trans (Di h1.ok (by rw[e2];exact hb.1.2) (J2 hn).1)
 split
 ·rename_i hb
  have h1:=key _ hb
  have h2:=h1.trans (E7 h1.ok)
  exact h2.trans (BB h2.ok)
 split
 ·rename_i hb
  have h1:=key _ hb
  exact h1.trans (RX h1.ok)
 ·exact E7 h
theorem VY {st:Pr→R Sm} (hu:∀p,okP p→Nx p (st p).2):∀(k:Nat) (l:List Sm) (p:Pr),okP p→Nx p (stmtsL st k l p).2
 |0,l,p,h=>.refl h
 |k+1,l,p,h=>by
  simp only[stmtsL]
  split
  ·split
   ·rename_i hi;exact B6 h hi
   ·split
    ·exact F1 51 h
    ·have h1:=hu p h
     exact h1.trans (VY hu k _ _ h1.ok)
  ·exact .refl h
theorem VZ {st:Pr→R Sm} (hu:∀p,okP p→Nx p (st p).2) {p:Pr} (h:okP p):Nx p (stmtsW st p).2:=VY hu _ _ _ h
theorem OR {st:Pr→R Sm} (hu:∀p,okP p→Nx p (st p).2) {p:Pr} (h:okP p):Nx p (blkW st p).2:=by
 unfold blkW
 split
 ·rename_i hi
  split
  ·rename_i hb
   have h1:=Fb h hb (B8 hi).2
   exact Oo h hb (h1.trans (VZ hu h1.ok))
  ·rename_i hb;exact Lq h (by simpa using hb)
 ·exact F1 51 h
theorem T6 {p:Pr} {t:List UInt8} (h:okP p) (hi:isT t p=true):Nx p (ifC p).2:=by
 have h1:=B6 h hi
 have h2:=h1.trans (BB (t:=[40]) h1.ok)
 exact h2.trans (Qj h2.ok)
theorem QT {st:Pr→R Sm} (hu:∀p,okP p→Nx p (st p).2) {p:Pr} {t:List UInt8} (h:okP p) (hi:isT t p=true):Nx p (ifB (blkW st) p).2:=by
 have h1:=T6 h hi
 have h2:=h1.trans (BB (t:=[41]) h1.ok)
 exact h2.trans (OR hu h2.ok)
theorem lJ {st:Pr→R Sm} (hu:∀p,okP p→Nx p (st p).2) (no:Int) {p:Pr} (h:okP p):Nx p (Hy st no p).2:=by
 unfold Hy
 split
 ·rename_i hi
  have h1:=B6 h hi
  have h2:=h1.trans (E7 h1.ok)
  exact h2.trans (BB h2.ok)
 split
 ·rename_i hi
  have h1:=T6 h hi
  have h2:=h1.trans (BB (t:=[41]) h1.ok)
  exact h2.trans (BB h2.ok)
 split
 ·rename_i hi;exact QT hu h hi
 split
 ·rename_i hi
  split
  ·rename_i hi2
   have h1:=QT hu h hi
   have h2:=h1.trans (B6 h1.ok hi2)
   exact h2.trans (OR hu h2.ok)
  ·exact QT hu h hi
 split
 ·rename_i hi
  have h1:=B6 h hi
  have h2:=h1.trans (FK h1.ok)
  have h3:=h2.trans (BB (t:=[61]) h2.ok)
  have h4:=h3.trans (E7 h3.ok)
  exact h4.trans (BB h4.ok)
 have hn:=FK h
 split
 ·rename_i hi
  have h1:=hn.trans (B6 hn.ok hi)
  have h2:=h1.trans (RX h1.ok)
  exact h2.trans (BB h2.ok)
 split
 ·rename_i hi
  have h1:=hn.trans (B6 hn.ok hi)
  have h2:=h1.trans (E7 h1.ok)
  have h3:=h2.trans (BB (t:=[93]) h2.ok)
  have h4:=h3.trans (BB (t:=[61]) h3.ok)
  have h5:=h4.trans (E7 h4.ok)
  exact h5.trans (BB h5.ok)
 ·have h1:=hn.trans (BB (t:=[61]) hn.ok)
  have h2:=h1.trans (Wi h1.ok)
  exact h2.trans (BB h2.ok)
theorem Mq:∀(f:Nat) (p:Pr),okP p→Nx p (C0 f p).2
 |0,p,h=>.refl h
 |f+1,p,h=>by
  simp only[C0]
  split
  ·exact F1 53 h
  ·have h1:=T5 h
   exact h1.trans (lJ (Mq f) _ h1.ok)
theorem a7 {t:List UInt8} {p:Pr} (h:okP p) (hb:ahB t p=true):nameB p=true∧p.i+1<(p.l.length:Int)∧IntKind.i64.wrap (p.i+1)=p.i+1∧((p.l.getD (p.i+1).toNat tk0).t==t)=true:=by
 have n5:IntKind.i64.wrap (p.i+1)=p.i+1:=by obtain⟨h1,h2,h3,_⟩:=h;exact wrap_i64 (by omega) (by omega)
 unfold ahB tkA at hb
 simp only[w64i,n5,Bool.and_eq_true,decide_eq_true_eq]at hb
 exact⟨hb.1.1,hb.1.2,n5,hb.2⟩
theorem Wj {t:List UInt8} {p:Pr} (h:okP p) (hb:ahB t p=true):Nx p (adv (BW p)):=by
 obtain⟨hn,h2,h3,_⟩:=a7 h hb
 have h1:=FK h
 have e:BW p=adv p:=by unfold BW;rw[if_pos hn]
 rw[e]at h1 ⊢
 have e2:=IA h (J2 hn).2
 exact h1.trans (Di h1.ok (by rw[e2];exact h2) (J2 hn).1)
theorem OS {t:List UInt8} {p q:Pr} (h:okP q) (hi:p.i≤q.i) (h0:(B1 t q).e=0):p.i+1≤(B1 t q).i:=by rw[TV h h0];omega
theorem lK {st:Pr→R Sm} (hu:∀p,okP p→Nx p (st p).2) (no:Int) {p:Pr} (h:okP p) (h0:(Hy st no p).2.e=0):p.i+1≤(Hy st no p).2.i:=by
 have hB:∀{t:List UInt8},isT t p=true→p.i+1≤(ifB (blkW st) p).2.i:=by
  intro t hi
  have h1:=B6 h hi
  have h2:=BB (t:=[40]) h1.ok
  have h3:=h2.trans (Qj h2.ok)
  have h4:=h3.trans (BB (t:=[41]) h3.ok)
  have h5:=(h4.trans (OR hu h4.ok)).i
  rw[IA h (B8 hi).2]at h5
  exact h5
 have hn:=FK h
 revert h0
 unfold Hy
 split
 ·rename_i hi
  intro h0
  have h1:=B6 h hi
  have h2:=h1.trans (E7 h1.ok)
  exact OS h2.ok h2.i h0
 split
 ·rename_i hi
  intro h0
  have h1:=T6 h hi
  have h2:=h1.trans (BB (t:=[41]) h1.ok)
  exact OS h2.ok h2.i h0
 split
 ·rename_i hi;exact fun _=>hB hi
 split
 ·rename_i hi
  split
  ·rename_i hi2
   intro _
   have h1:=QT hu h hi
   have h2:=B6 h1.ok hi2
   have h3:=(h2.trans (OR hu h2.ok)).i
   exact Int.le_trans (hB hi) h3
  ·exact fun _=>hB hi
 split
 ·rename_i hi
  intro h0
  have h1:=B6 h hi
  have h2:=h1.trans (FK h1.ok)
  have h3:=h2.trans (BB (t:=[61]) h2.ok)
  have h4:=h3.trans (E7 h3.ok)
  exact OS h4.ok h4.i h0
 split
 ·rename_i hi
  intro h0
  have h1:=hn.trans (B6 hn.ok hi)
  have h2:=h1.trans (RX h1.ok)
  exact OS h2.ok h2.i h0
 split
 ·rename_i hi
  intro h0
  have h1:=hn.trans (B6 hn.ok hi)
  have h2:=h1.trans (E7 h1.ok)
  have h3:=h2.trans (BB (t:=[93]) h2.ok)
  have h4:=h3.trans (BB (t:=[61]) h3.ok)
  have h5:=h4.trans (E7 h4.ok)
  exact OS h5.ok h5.i h0
 ·intro h0
  have h1:=hn.trans (BB (t:=[61]) hn.ok)
  have h2:=h1.trans (Wi h1.ok)
  exact OS h2.ok h2.i h0
theorem fO {c:Int} (hc:c≠0) (p:Pr):(CI c p).e≠0:=by
 unfold CI
 split
 ·exact hc
 ·rename_i h;simpa using h
theorem bp (f:Nat) {p:Pr} (h:okP p) (h0:(C0 (f+1) p).2.e=0):p.i+1≤(C0 (f+1) p).2.i:=by
 revert h0
 simp only[C0]
 split
 ·exact fun h0=>absurd h0 (fO (by decide) p)
 ·exact fun h0=>lK (Mq f) _ (T5 h).ok h0
theorem WH {f:Nat} {p q:Pr} (h:Nx p q) (hd:dpU f p):dpU f q:=by unfold dpU;rw[h.d];exact hd
end Go.Proofs.Ytjnnmindcbgjhaa
