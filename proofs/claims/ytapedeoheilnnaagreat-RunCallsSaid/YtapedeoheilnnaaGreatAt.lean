/- Rows of arguments, variables, statements. No conditions but those in each statement. -/
import Derived.Test.YtapedeoheilnnaaGreatTy2
import Derived.Test.YtapedeoheilnnaaGreatPn
set_option linter.all false
open List (mem_cons not_mem_nil)
namespace Go.Proofs.YtapedeoheilnnaaGreat
open Go Go.Sy Go.RowKit
variable{p:Pr}{t:List UInt8}
def Ar.c(a:Ar):List C:=[.v (.bool a.p),.v (.string (bs a.s)),exC a.e]
def zAc:List C:=[.v (.bool false),.v (.string (bs [])),.v (.pointer none)]
theorem A2q:zT zAc=none:=rfl
attribute [go_sem] A2q
def Vr.c(v:Vr):List C:=[.v (.string (bs v.s)),.v (.bool v.p)]
def zVc:List C:=[.v (.string (bs [])),.v (.bool false)]
theorem A2r:zT zVc=none:=rfl
attribute [go_sem] A2r
def Sm.k:Sm->Int| .mk k _ _ _ _ _ _ _ _ _=>k
def Sm.x:Sm->List UInt8| .mk _ x _ _ _ _ _ _ _ _=>x
def Sm.y:Sm->List UInt8| .mk _ _ y _ _ _ _ _ _ _=>y
def Sm.e:Sm->Ex| .mk _ _ _ e _ _ _ _ _ _=>e
def Sm.f:Sm->Ex| .mk _ _ _ _ f _ _ _ _ _=>f
def Sm.cd:Sm->Cd| .mk _ _ _ _ _ c _ _ _ _=>c
def Sm.ar:Sm->List Ar| .mk _ _ _ _ _ _ a _ _ _=>a
def Sm.th:Sm->List Sm| .mk _ _ _ _ _ _ _ t _ _=>t
def Sm.el:Sm->List Sm| .mk _ _ _ _ _ _ _ _ e _=>e
def Sm.no:Sm->Int| .mk _ _ _ _ _ _ _ _ _ n=>n
theorem Fx(s:Sm):s.r=[dI s.k,dS s.x,dS s.y,s.e.d,s.f.d,s.cd.d,.sl zAr (s.ar.map Ar.r),.sl zSm (s.th.map Sm.r),.sl zSm (s.el.map Sm.r),dI s.no]:=by
 cases s;simp only[Sm.r,lP,Sm.k,Sm.x,Sm.y,Sm.e,Sm.f,Sm.cd,Sm.ar,Sm.th,Sm.el,Sm.no]
def Sm.c(s:Sm):List C:=[.v (.int .i64 s.k),.v (.string (bs s.x)),.v (.string (bs s.y)),exC s.e,exC s.f,cdC s.cd,.d (.sl zAr (s.ar.map Ar.r)),.d (.sl zSm (s.th.map Sm.r)),.d (.sl zSm (s.el.map Sm.r)),.v (.int .i64 s.no)]
def zSc:List C:=[.v (.int .i64 0),.v (.string (bs [])),.v (.string (bs [])),.v (.pointer none),.v (.pointer none),.v (.pointer none),.v (.slice none 0 0),.v (.slice none 0 0),.v (.slice none 0 0),.v (.int .i64 0)]
theorem A2s:zT zSc=none:=rfl
attribute [go_sem] A2s
def Fn.c(f:Fn):List C:=[.v (.string (bs f.name)),.d (.sl zVr (f.ps.map Vr.r)),.d (.sl zVr (f.ls.map Vr.r)),.d (.sl zSm (f.body.map Sm.r))]
abbrev fn0:Fn:=⟨[],[],[],[]⟩
section
variable {A:Type}{l:List A}
structure RowsD(f:A->List C)(g:A->List D)(n:Nat):Prop where
 nm:∀a,∀c∈f a,C.names c=[]
 st:∀a,∀c∈f a,C.stor c=true
 td:∀a,GD (f a)=some (g a)
 len:∀a,(f a).length=n
theorem A2t(k t:Nat){c:C}(h:c.names=[])(h2:C.stor c=true):mvC k t c=c:=by
 cases c<;>first|rfl|(simp[C.stor]at h2;done)|(simp[C.names]at h;done)|(rename_i f caps;simp only[C.names]at h;simp[mvC,h])
theorem A2u(k:Nat)(z:List D)(es:List (List D)){c:C}(h:c.names=[])(h2:C.stor c=true):fzC k z es c=c:=by
 cases c<;>first|rfl|(simp[C.stor]at h2;done)|(simp[C.names]at h;done)|(rename_i f caps;simp only[C.names]at h;simp[fzC,h])
theorem cq{σ:C->C}{r:List C}(h:∀c∈r,σ c=c):r.map σ=r:=by
 induction r with
 |nil=>rfl
 |cons c r ih=>rw[List.map_cons,h c (List.mem_cons_self ..),ih λc hc=>h c (List.mem_cons_of_mem _ hc)]
variable {f:A->List C}{g:A->List D}{n:Nat}(hR:RowsD f g n)
include hR
theorem RowsD.fn:List.flatMap (λr=>List.flatMap C.names r) (l.map f)=[]:=A11 f hR.nm l
theorem RowsD.ds:EZ (l.map f)=some (l.map g):=Hi f hR.td l
theorem RowsD.ds1(r:List C):EZ (l.map f++[r])=(GD r).map λd=>l.map g++[d]:=by
 induction l with
 |nil=>simp only[List.map_nil,List.nil_append,EZ];cases GD r<;>rfl
 |cons a l ih=>simp only[List.map_cons,List.cons_append,EZ,hR.td a,ih];cases GD r<;>rfl
theorem RowsD.mv(k t:Nat):(l.map f).map (λr=>r.map (mvC k t))=l.map f:=HU f (λa=>cq λc hc=>A2t k t (hR.nm a c hc) (hR.st a c hc)) l
theorem RowsD.fz(k:Nat)(z:List D)(es:List (List D)):(l.map f).map (λr=>r.map (fzC k z es))=l.map f:=HU f (λa=>cq λc hc=>A2u k z es (hR.nm a c hc) (hR.st a c hc)) l
theorem RowsD.stor:BS (l.map f):=Y5 f hR.st l
theorem RowsD.cl:U3 (l.map f)=true:=pm f hR.nm l
end
theorem IE:RowsD Ar.c Ar.r 3:=by
 refine⟨λa c hc=>?_,λa c hc=>?_,λa=>?_,λa=>rfl⟩
 .simp only[Ar.c,mem_cons,not_mem_nil,or_false]at hc;rcases hc with rfl|rfl|rfl<;>first|rfl|exact M2 _
 .simp only[Ar.c,mem_cons,not_mem_nil,or_false]at hc;rcases hc with rfl|rfl|rfl<;>first|rfl|exact Y7 _
 simp only[Ar.c,GD,toD,bp,Ar.r]
theorem Dd:RowsD Vr.c Vr.r 2:=by
 refine⟨λa c hc=>?_,λa c hc=>?_,λa=>?_,λa=>rfl⟩
 .simp only[Vr.c,mem_cons,not_mem_nil,or_false]at hc;rcases hc with rfl|rfl<;>rfl
 .simp only[Vr.c,mem_cons,not_mem_nil,or_false]at hc;rcases hc with rfl|rfl<;>rfl
 simp only[Vr.c,GD,toD,Vr.r]
theorem Hk:RowsD Sm.c Sm.r 10:=by
 refine⟨λa c hc=>?_,λa c hc=>?_,λa=>?_,λa=>rfl⟩
 .simp only[Sm.c,mem_cons,not_mem_nil,or_false]at hc;rcases hc with rfl|rfl|rfl|rfl|rfl|rfl|rfl|rfl|rfl|rfl<;>first|rfl|exact M2 _|exact Rl _
 .simp only[Sm.c,mem_cons,not_mem_nil,or_false]at hc;rcases hc with rfl|rfl|rfl|rfl|rfl|rfl|rfl|rfl|rfl|rfl<;>first|rfl|exact Y7 _|exact ed _
 rw[Fx];simp only[Sm.c,GD,toD,bp,lV]
open Go Go.Sy Go.RowKit
abbrev qV:List UInt8:=[110,117,108,108]
abbrev mS:List UInt8:=[114,101,116,117,114,110]
abbrev mU:List UInt8:=[97,115,115,101,114,116]
abbrev tIf:List UInt8:=[105,102]
abbrev mV:List UInt8:=[119,104,105,108,101]
abbrev qW:List UInt8:=[101,108,115,101]
abbrev A6r:List UInt8:=[118,97,114]
abbrev tPtr:List UInt8:=[112,116,114]
abbrev tFn:List UInt8:=[102,110]
structure VR where
 k:Int
 y:List UInt8
 e:Ex
 a:Option (List Ar)
def ahB(t:List UInt8)(p:Pr):Bool:=nameB p&&decide (w64i (p.i+1)<(p.l.length:Int))&&(tkA p (w64i (p.i+1))).t==t
def valF(p:Pr):R VR:=
 if isT qV p=true then (⟨3,[],.nil,none⟩,adv p)
 else if isT [38] p=true then (⟨1,E3 (adv p),.nil,none⟩,CI (adv p))
 else if isT [42] p=true then (⟨4,E3 (adv p),.nil,none⟩,CI (adv p))
 else if ahB [91] p=true then (⟨6,E3 p,(exS (adv (CI p))).1,none⟩,Bd [93] (exS (adv (CI p))).2)
 else if ahB [40] p=true then (⟨8,E3 p,.nil,some (argW (adv (CI p))).1⟩,(argW (adv (CI p))).2)
 else (⟨0,[],(exS p).1,none⟩,(exS p).2)
def nxt(p:Pr):Pr:={ p with n:=w64i (p.n+1) }
def fE(p:Pr):Bool:=nameB p||isT [42] p||isT mS p||isT mU p||isT tIf p||isT mV p
def sm0(no:Int):Sm:=.mk 0 [] [] .nil .nil .nil [] [] [] no
def stmtsL(st:Pr->R Sm):Nat->List Sm->Pr->R (List Sm)
 |0,l,p=>(l,p)
 |k+1,l,p=>
  if (p.e==0)=true then
   (
    if isT [125] p=true then (l,adv p)
    else if decide ((p.l.length:Int)<=p.i)=true then ([],DK 51 p)
    else stmtsL st k (l++[(st p).1]) (st p).2)
  else (l,p)
def stmtsW(st:Pr->R Sm)(p:Pr):R (List Sm):=stmtsL st (p.l.length+1) [] p
def blkW(st:Pr->R Sm)(p:Pr):R (List Sm):=
 if isT [123] p=true then
  (if Fh p=true then ((stmtsW st (adv (CO p))).1,shut (stmtsW st (adv (CO p))).2) else ([],CO p))
 else ([],DK 51 p)
def ifC(p:Pr):R Cd:=cdS (Bd [40] (adv p))
def ifB(blk:Pr->R (List Sm))(p:Pr):R (List Sm):=blk (Bd [41] (ifC p).2)
def HW(st:Pr->R Sm)(no:Int)(p:Pr):R Sm:=
 if isT mS p=true then (.mk 9 [] [] (exS (adv p)).1 .nil .nil [] [] [] no,Bd [59] (exS (adv p)).2)
 else if isT mU p=true then (.mk 12 [] [] .nil .nil (ifC p).1 [] [] [] no,Bd [59] (Bd [41] (ifC p).2))
 else if isT mV p=true then (.mk 11 [] [] .nil .nil (ifC p).1 [] (ifB (blkW st) p).1 [] no,(ifB (blkW st) p).2)
 else if isT tIf p=true then
  (if isT qW (ifB (blkW st) p).2=true then
   (.mk 10 [] [] .nil .nil (ifC p).1 [] (ifB (blkW st) p).1 (blkW st (adv (ifB (blkW st) p).2)).1 no,(blkW st (adv (ifB (blkW st) p).2)).2)
   else (.mk 10 [] [] .nil .nil (ifC p).1 [] (ifB (blkW st) p).1 [] no,(ifB (blkW st) p).2))
 else if isT [42] p=true then
  (.mk 5 (E3 (adv p)) [] (exS (Bd [61] (CI (adv p)))).1 .nil .nil [] [] [] no,Bd [59] (exS (Bd [61] (CI (adv p)))).2)
 else if isT [40] (CI p)=true then
  (.mk 8 [] (E3 p) .nil .nil .nil (argW (adv (CI p))).1 [] [] no,Bd [59] (argW (adv (CI p))).2)
 else if isT [91] (CI p)=true then
  (.mk 7 [] (E3 p) (exS (adv (CI p))).1 (exS (Bd [61] (Bd [93] (exS (adv (CI p))).2))).1 .nil [] [] [] no,Bd [59] (exS (Bd [61] (Bd [93] (exS (adv (CI p))).2))).2)
 else (.mk (valF (Bd [61] (CI p))).1.k (E3 p) (valF (Bd [61] (CI p))).1.y (valF (Bd [61] (CI p))).1.e .nil .nil ((valF (Bd [61] (CI p))).1.a.getD []) [] [] no,Bd [59] (valF (Bd [61] (CI p))).2)
def Ce:Nat->Pr->R Sm
 |0,p=>(sm0 p.n,p)
 |f+1,p=>if (fE p&&decide (200<=p.n))=true then (sm0 p.n,DK 53 p) else HW (Ce f) p.n (nxt p)
abbrev A6s:Pr->R (List Sm):=stmtsW (Ce 41)
theorem Pj(h:okP p):Nx p (nxt p):=⟨h,rfl,rfl,Int.le_refl _,rfl,λ_=>⟨rfl,rfl⟩⟩
theorem VG(h:okP p):Nx p (valF p).2:=by
 unfold valF
 split
 .rename_i hi;exact B0 h hi
 split
 .rename_i hi;have h1:=B0 h hi;exact h1.trans (Fl h1.ok)
 split
 .rename_i hi;have h1:=B0 h hi;exact h1.trans (Fl h1.ok)
 have key:∀t,ahB t p=true->Nx p (adv (CI p)):=by
  intro t hb
  unfold ahB at hb
  simp only[Bool.and_eq_true,decide_eq_true_eq]at hb
  have hn:=hb.1.1
  have h1:=Fl h
  have e:CI p=adv p:=by unfold CI;rw[if_pos hn]
  rw[e]at h1 ⊢
  have e2:=J9 h (Jo hn).2
  have h3:w64i (p.i+1)=p.i+1:=e2
  rw[h3]at hb
  exact h1.trans (Ey h1.ok (by rw[e2];exact hb.1.2) (Jo hn).1)
 split
 .rename_i hb
  have h1:=key _ hb
  have h2:=h1.trans (Ds h1.ok)
  exact h2.trans (Ak h2.ok)
 split
 .rename_i hb
  have h1:=key _ hb
  exact h1.trans (QA h1.ok)
 exact Ds h
theorem S8{st:Pr->R Sm}(hu:∀p,okP p->Nx p (st p).2):∀(k:Nat) (l:List Sm) (p:Pr),okP p->Nx p (stmtsL st k l p).2
 |0,l,p,h=>.refl h
 |k+1,l,p,h=>by
  simp only[stmtsL]
  split
  .split
   .rename_i hi;exact B0 h hi
   split
   .exact FY 51 h
   have h1:=hu p h
   exact h1.trans (S8 hu k _ _ h1.ok)
  exact .refl h
theorem YK{st:Pr->R Sm}(hu:∀p,okP p->Nx p (st p).2)(h:okP p):Nx p (stmtsW st p).2:=S8 hu _ _ _ h
theorem Lc{st:Pr->R Sm}(hu:∀p,okP p->Nx p (st p).2)(h:okP p):Nx p (blkW st p).2:=by
 unfold blkW
 split
 .rename_i hi
  split
  .rename_i hb
   have h1:=Ef h hb (BA hi).2
   exact Ps h hb (h1.trans (YK hu h1.ok))
  exact AAr
 exact FY 51 h
theorem Pk(h:okP p)(hi:isT t p=true):Nx p (ifC p).2:=by
 have h1:=B0 h hi
 have h2:=h1.trans (Ak (t:=[40]) h1.ok)
 exact h2.trans (SL h2.ok)
theorem Pl{st:Pr->R Sm}(hu:∀p,okP p->Nx p (st p).2)(h:okP p)(hi:isT t p=true):Nx p (ifB (blkW st) p).2:=by
 have h1:=Pk h hi
 have h2:=h1.trans (Ak (t:=[41]) h1.ok)
 exact h2.trans (Lc hu h2.ok)
theorem sS{st:Pr->R Sm}(hu:∀p,okP p->Nx p (st p).2)(no:Int)(h:okP p):Nx p (HW st no p).2:=by
 unfold HW
 split
 .rename_i hi
  have h1:=B0 h hi
  have h2:=h1.trans (Ds h1.ok)
  exact h2.trans (Ak h2.ok)
 split
 .rename_i hi
  have h1:=Pk h hi
  have h2:=h1.trans (Ak (t:=[41]) h1.ok)
  exact h2.trans (Ak h2.ok)
 split
 .rename_i hi;exact Pl hu h hi
 split
 .rename_i hi
  split
  .rename_i hi2
   have h1:=Pl hu h hi
   have h2:=h1.trans (B0 h1.ok hi2)
   exact h2.trans (Lc hu h2.ok)
  exact Pl hu h hi
 split
 .rename_i hi
  have h1:=B0 h hi
  have h2:=h1.trans (Fl h1.ok)
  have h3:=h2.trans (Ak (t:=[61]) h2.ok)
  have h4:=h3.trans (Ds h3.ok)
  exact h4.trans (Ak h4.ok)
 have hn:=Fl h
 split
 .rename_i hi
  have h1:=hn.trans (B0 hn.ok hi)
  have h2:=h1.trans (QA h1.ok)
  exact h2.trans (Ak h2.ok)
 split
 .rename_i hi
  have h1:=hn.trans (B0 hn.ok hi)
  have h2:=h1.trans (Ds h1.ok)
  have h3:=h2.trans (Ak (t:=[93]) h2.ok)
  have h4:=h3.trans (Ak (t:=[61]) h3.ok)
  have h5:=h4.trans (Ds h4.ok)
  exact h5.trans (Ak h5.ok)
 have h1:=hn.trans (Ak (t:=[61]) hn.ok)
 have h2:=h1.trans (VG h1.ok)
 exact h2.trans (Ak h2.ok)
theorem L9:∀(f:Nat) (p:Pr),okP p->Nx p (Ce f p).2
 |0,p,h=>.refl h
 |f+1,p,h=>by
  simp only[Ce]
  split
  .exact FY 53 h
  have h1:=Pj h
  exact h1.trans (sS (L9 f) _ h1.ok)
theorem fF(h:okP p)(hb:ahB t p=true):nameB p=true/\p.i+1<(p.l.length:Int)/\IntKind.i64.wrap (p.i+1)=p.i+1/\((p.l.getD (p.i+1).toNat tk0).t==t)=true:=by
 have n5:IntKind.i64.wrap (p.i+1)=p.i+1:=by obtain⟨h1,h2,h3,_⟩:=h;exact wrap_i64 (by omega) (by omega)
 unfold ahB tkA at hb
 simp only[w64i,n5,Bool.and_eq_true,decide_eq_true_eq]at hb
 exact⟨hb.1.1,hb.1.2,n5,hb.2⟩
theorem S9(h:okP p)(hb:ahB t p=true):Nx p (adv (CI p)):=by
 obtain⟨hn,h2,h3,_⟩:=fF h hb
 have h1:=Fl h
 have e:CI p=adv p:=by unfold CI;rw[if_pos hn]
 rw[e]at h1 ⊢
 have e2:=J9 h (Jo hn).2
 exact h1.trans (Ey h1.ok (by rw[e2];exact h2) (Jo hn).1)
theorem Pm{q:Pr}(h:okP q)(hi:p.i<=q.i)(h0:(Bd t q).e=0):p.i+1<=(Bd t q).i:=by rw[VK h h0];omega
theorem sT{st:Pr->R Sm}(hu:∀p,okP p->Nx p (st p).2)(no:Int)(h:okP p)(h0:(HW st no p).2.e=0):p.i+1<=(HW st no p).2.i:=by
 have hB:∀{t:List UInt8},isT t p=true->p.i+1<=(ifB (blkW st) p).2.i:=by
  intro t hi
  have h1:=B0 h hi
  have h2:=Ak (t:=[40]) h1.ok
  have h3:=h2.trans (SL h2.ok)
  have h4:=h3.trans (Ak (t:=[41]) h3.ok)
  have h5:=(h4.trans (Lc hu h4.ok)).i
  rw[J9 h (BA hi).2]at h5
  exact h5
 have hn:=Fl h
 revert h0
 unfold HW
 split
 .rename_i hi
  intro h0
  have h1:=B0 h hi
  have h2:=h1.trans (Ds h1.ok)
  exact Pm h2.ok h2.i h0
 split
 .rename_i hi
  intro h0
  have h1:=Pk h hi
  have h2:=h1.trans (Ak (t:=[41]) h1.ok)
  exact Pm h2.ok h2.i h0
 split
 .grind
 split
 .rename_i hi
  split
  .rename_i hi2
   intro _
   have h1:=Pl hu h hi
   have h2:=B0 h1.ok hi2
   have h3:=(h2.trans (Lc hu h2.ok)).i
   exact Int.le_trans (hB hi) h3
  grind
 split
 .rename_i hi
  intro h0
  have h1:=B0 h hi
  have h2:=h1.trans (Fl h1.ok)
  have h3:=h2.trans (Ak (t:=[61]) h2.ok)
  have h4:=h3.trans (Ds h3.ok)
  exact Pm h4.ok h4.i h0
 split
 .rename_i hi
  intro h0
  have h1:=hn.trans (B0 hn.ok hi)
  have h2:=h1.trans (QA h1.ok)
  exact Pm h2.ok h2.i h0
 split
 .rename_i hi
  intro h0
  have h1:=hn.trans (B0 hn.ok hi)
  have h2:=h1.trans (Ds h1.ok)
  have h3:=h2.trans (Ak (t:=[93]) h2.ok)
  have h4:=h3.trans (Ak (t:=[61]) h3.ok)
  have h5:=h4.trans (Ds h4.ok)
  exact Pm h5.ok h5.i h0
 intro h0
 have h1:=hn.trans (Ak (t:=[61]) hn.ok)
 have h2:=h1.trans (VG h1.ok)
 exact Pm h2.ok h2.i h0
theorem KU{c:Int}(hc:c≠0)(p:Pr):(DK c p).e≠0:=by
 unfold DK
 split
 .exact hc
 simp_all
theorem iR(f:Nat)(h:okP p)(h0:(Ce (f+1) p).2.e=0):p.i+1<=(Ce (f+1) p).2.i:=by
 revert h0
 simp only[Ce]
 split
 .exact λh0=>absurd h0 (KU (by decide) p)
 exact λh0=>sT (L9 f) _ (Pj h).ok h0
theorem GG{f:Nat}{q:Pr}(h:Nx p q)(hd:dpU f p):dpU f q:=by unfold dpU;rw[h.d];exact hd
end Go.Proofs.YtapedeoheilnnaaGreat
