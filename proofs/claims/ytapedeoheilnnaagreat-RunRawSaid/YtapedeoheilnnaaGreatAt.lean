/- Rows of arguments, variables, statements. No conditions but those in each statement. -/
import Derived.Test.YtapedeoheilnnaaGreatTy2
import Derived.Test.YtapedeoheilnnaaGreatPn
set_option linter.all false
open List (mem_cons not_mem_nil)
namespace Go.Proofs.YtapedeoheilnnaaGreat
open Go Go.Sy Go.RowKit
variable{p:Pr}{t:List UInt8}
def Ar.c(a:Ar):List C:=[.v (.bool a.p),.v (.string (bs a.s)),exC a.e]
def zAc:List C:=[.v (.bool false),.v (.string (bs [])),.v (.pointer none)]
theorem A2b:zT zAc=none:=rfl
attribute [go_sem] A2b
def Vr.c(v:Vr):List C:=[.v (.string (bs v.s)),.v (.bool v.p)]
def zVc:List C:=[.v (.string (bs [])),.v (.bool false)]
theorem A2c:zT zVc=none:=rfl
attribute [go_sem] A2c
def Sm.k:Sm->Int| .mk k _ _ _ _ _ _ _ _ _=>k
def Sm.x:Sm->List UInt8| .mk _ x _ _ _ _ _ _ _ _=>x
def Sm.y:Sm->List UInt8| .mk _ _ y _ _ _ _ _ _ _=>y
def Sm.e:Sm->Ex| .mk _ _ _ e _ _ _ _ _ _=>e
def Sm.f:Sm->Ex| .mk _ _ _ _ f _ _ _ _ _=>f
def Sm.cd:Sm->Cd| .mk _ _ _ _ _ c _ _ _ _=>c
def Sm.ar:Sm->List Ar| .mk _ _ _ _ _ _ a _ _ _=>a
def Sm.th:Sm->List Sm| .mk _ _ _ _ _ _ _ t _ _=>t
def Sm.el:Sm->List Sm| .mk _ _ _ _ _ _ _ _ e _=>e
def Sm.no:Sm->Int| .mk _ _ _ _ _ _ _ _ _ n=>n
theorem Fl(s:Sm):s.r=[dI s.k,dS s.x,dS s.y,s.e.d,s.f.d,s.cd.d,.sl zAr (s.ar.map Ar.r),.sl zSm (s.th.map Sm.r),.sl zSm (s.el.map Sm.r),dI s.no]:=by
 cases s;simp only[Sm.r,kh,Sm.k,Sm.x,Sm.y,Sm.e,Sm.f,Sm.cd,Sm.ar,Sm.th,Sm.el,Sm.no]
def Sm.c(s:Sm):List C:=[.v (.int .i64 s.k),.v (.string (bs s.x)),.v (.string (bs s.y)),exC s.e,exC s.f,cdC s.cd,.d (.sl zAr (s.ar.map Ar.r)),.d (.sl zSm (s.th.map Sm.r)),.d (.sl zSm (s.el.map Sm.r)),.v (.int .i64 s.no)]
def zSc:List C:=[.v (.int .i64 0),.v (.string (bs [])),.v (.string (bs [])),.v (.pointer none),.v (.pointer none),.v (.pointer none),.v (.slice none 0 0),.v (.slice none 0 0),.v (.slice none 0 0),.v (.int .i64 0)]
theorem A2d:zT zSc=none:=rfl
attribute [go_sem] A2d
def Fn.c(f:Fn):List C:=[.v (.string (bs f.name)),.d (.sl zVr (f.ps.map Vr.r)),.d (.sl zVr (f.ls.map Vr.r)),.d (.sl zSm (f.body.map Sm.r))]
abbrev fn0:Fn:=⟨[],[],[],[]⟩
section
variable {A:Type}{l:List A}
structure RowsD(f:A->List C)(g:A->List D)(n:Nat):Prop where
 nm:∀a,∀c∈f a,C.names c=[]
 st:∀a,∀c∈f a,C.stor c=true
 td:∀a,G3 (f a)=some (g a)
 len:∀a,(f a).length=n
theorem A2e(k t:Nat){c:C}(h:c.names=[])(h2:C.stor c=true):mvC k t c=c:=by
 cases c<;>first|rfl|(simp[C.stor]at h2;done)|(simp[C.names]at h;done)|(rename_i f caps;simp only[C.names]at h;simp[mvC,h])
theorem A2f(k:Nat)(z:List D)(es:List (List D)){c:C}(h:c.names=[])(h2:C.stor c=true):fzC k z es c=c:=by
 cases c<;>first|rfl|(simp[C.stor]at h2;done)|(simp[C.names]at h;done)|(rename_i f caps;simp only[C.names]at h;simp[fzC,h])
theorem cH{σ:C->C}{r:List C}(h:∀c∈r,σ c=c):r.map σ=r:=by
 induction r with
 |nil=>rfl
 |cons c r ih=>rw[List.map_cons,h c (List.mem_cons_self ..),ih λc hc=>h c (List.mem_cons_of_mem _ hc)]
variable {f:A->List C}{g:A->List D}{n:Nat}(hR:RowsD f g n)
include hR
theorem RowsD.fn:List.flatMap (λr=>List.flatMap C.names r) (l.map f)=[]:=A0k f hR.nm l
theorem RowsD.ds:ES (l.map f)=some (l.map g):=He f hR.td l
theorem RowsD.ds1(r:List C):ES (l.map f++[r])=(G3 r).map λd=>l.map g++[d]:=by
 induction l with
 |nil=>simp only[List.map_nil,List.nil_append,ES];cases G3 r<;>rfl
 |cons a l ih=>simp only[List.map_cons,List.cons_append,ES,hR.td a,ih];cases G3 r<;>rfl
theorem RowsD.mv(k t:Nat):(l.map f).map (λr=>r.map (mvC k t))=l.map f:=HP f (λa=>cH λc hc=>A2e k t (hR.nm a c hc) (hR.st a c hc)) l
theorem RowsD.fz(k:Nat)(z:List D)(es:List (List D)):(l.map f).map (λr=>r.map (fzC k z es))=l.map f:=HP f (λa=>cH λc hc=>A2f k z es (hR.nm a c hc) (hR.st a c hc)) l
theorem RowsD.stor:Bj (l.map f):=Xt f hR.st l
theorem RowsD.cl:Tj (l.map f)=true:=pH f hR.nm l
end
theorem I9:RowsD Ar.c Ar.r 3:=by
 refine⟨λa c hc=>?_,λa c hc=>?_,λa=>?_,λa=>rfl⟩
 .simp only[Ar.c,mem_cons,not_mem_nil,or_false]at hc;rcases hc with rfl|rfl|rfl<;>first|rfl|exact Lt _
 .simp only[Ar.c,mem_cons,not_mem_nil,or_false]at hc;rcases hc with rfl|rfl|rfl<;>first|rfl|exact Xv _
 simp only[Ar.c,G3,toD,bN,Ar.r]
theorem DM:RowsD Vr.c Vr.r 2:=by
 refine⟨λa c hc=>?_,λa c hc=>?_,λa=>?_,λa=>rfl⟩
 .simp only[Vr.c,mem_cons,not_mem_nil,or_false]at hc;rcases hc with rfl|rfl<;>rfl
 .simp only[Vr.c,mem_cons,not_mem_nil,or_false]at hc;rcases hc with rfl|rfl<;>rfl
 simp only[Vr.c,G3,toD,Vr.r]
theorem Hg:RowsD Sm.c Sm.r 10:=by
 refine⟨λa c hc=>?_,λa c hc=>?_,λa=>?_,λa=>rfl⟩
 .simp only[Sm.c,mem_cons,not_mem_nil,or_false]at hc;rcases hc with rfl|rfl|rfl|rfl|rfl|rfl|rfl|rfl|rfl|rfl<;>first|rfl|exact Lt _|exact Rb _
 .simp only[Sm.c,mem_cons,not_mem_nil,or_false]at hc;rcases hc with rfl|rfl|rfl|rfl|rfl|rfl|rfl|rfl|rfl|rfl<;>first|rfl|exact Xv _|exact eA _
 rw[Fl];simp only[Sm.c,G3,toD,bN,kw]
open Go Go.Sy Go.RowKit
abbrev pv:List UInt8:=[110,117,108,108]
abbrev lm:List UInt8:=[114,101,116,117,114,110]
abbrev lp:List UInt8:=[97,115,115,101,114,116]
abbrev tIf:List UInt8:=[105,102]
abbrev lq:List UInt8:=[119,104,105,108,101]
abbrev pw:List UInt8:=[101,108,115,101]
abbrev A6a:List UInt8:=[118,97,114]
abbrev tPtr:List UInt8:=[112,116,114]
abbrev tFn:List UInt8:=[102,110]
structure VR where
 k:Int
 y:List UInt8
 e:Ex
 a:Option (List Ar)
def ahB(t:List UInt8)(p:Pr):Bool:=nameB p&&decide (w64i (p.i+1)<(p.l.length:Int))&&(tkA p (w64i (p.i+1))).t==t
def valF(p:Pr):R VR:=
 if isT pv p=true then (⟨3,[],.nil,none⟩,adv p)
 else if isT [38] p=true then (⟨1,Dy (adv p),.nil,none⟩,C4 (adv p))
 else if isT [42] p=true then (⟨4,Dy (adv p),.nil,none⟩,C4 (adv p))
 else if ahB [91] p=true then (⟨6,Dy p,(exS (adv (C4 p))).1,none⟩,BW [93] (exS (adv (C4 p))).2)
 else if ahB [40] p=true then (⟨8,Dy p,.nil,some (argW (adv (C4 p))).1⟩,(argW (adv (C4 p))).2)
 else (⟨0,[],(exS p).1,none⟩,(exS p).2)
def nxt(p:Pr):Pr:={ p with n:=w64i (p.n+1) }
def eT(p:Pr):Bool:=nameB p||isT [42] p||isT lm p||isT lp p||isT tIf p||isT lq p
def sm0(no:Int):Sm:=.mk 0 [] [] .nil .nil .nil [] [] [] no
def stmtsL(st:Pr->R Sm):Nat->List Sm->Pr->R (List Sm)
 |0,l,p=>(l,p)
 |k+1,l,p=>
  if (p.e==0)=true then
   (
    if isT [125] p=true then (l,adv p)
    else if decide ((p.l.length:Int)<=p.i)=true then ([],D6 51 p)
    else stmtsL st k (l++[(st p).1]) (st p).2)
  else (l,p)
def stmtsW(st:Pr->R Sm)(p:Pr):R (List Sm):=stmtsL st (p.l.length+1) [] p
def blkW(st:Pr->R Sm)(p:Pr):R (List Sm):=
 if isT [123] p=true then
  (if FU p=true then ((stmtsW st (adv (C9 p))).1,shut (stmtsW st (adv (C9 p))).2) else ([],C9 p))
 else ([],D6 51 p)
def ifC(p:Pr):R Cd:=cdS (BW [40] (adv p))
def ifB(blk:Pr->R (List Sm))(p:Pr):R (List Sm):=blk (BW [41] (ifC p).2)
def HR(st:Pr->R Sm)(no:Int)(p:Pr):R Sm:=
 if isT lm p=true then (.mk 9 [] [] (exS (adv p)).1 .nil .nil [] [] [] no,BW [59] (exS (adv p)).2)
 else if isT lp p=true then (.mk 12 [] [] .nil .nil (ifC p).1 [] [] [] no,BW [59] (BW [41] (ifC p).2))
 else if isT lq p=true then (.mk 11 [] [] .nil .nil (ifC p).1 [] (ifB (blkW st) p).1 [] no,(ifB (blkW st) p).2)
 else if isT tIf p=true then
  (if isT pw (ifB (blkW st) p).2=true then
   (.mk 10 [] [] .nil .nil (ifC p).1 [] (ifB (blkW st) p).1 (blkW st (adv (ifB (blkW st) p).2)).1 no,(blkW st (adv (ifB (blkW st) p).2)).2)
   else (.mk 10 [] [] .nil .nil (ifC p).1 [] (ifB (blkW st) p).1 [] no,(ifB (blkW st) p).2))
 else if isT [42] p=true then
  (.mk 5 (Dy (adv p)) [] (exS (BW [61] (C4 (adv p)))).1 .nil .nil [] [] [] no,BW [59] (exS (BW [61] (C4 (adv p)))).2)
 else if isT [40] (C4 p)=true then
  (.mk 8 [] (Dy p) .nil .nil .nil (argW (adv (C4 p))).1 [] [] no,BW [59] (argW (adv (C4 p))).2)
 else if isT [91] (C4 p)=true then
  (.mk 7 [] (Dy p) (exS (adv (C4 p))).1 (exS (BW [61] (BW [93] (exS (adv (C4 p))).2))).1 .nil [] [] [] no,BW [59] (exS (BW [61] (BW [93] (exS (adv (C4 p))).2))).2)
 else (.mk (valF (BW [61] (C4 p))).1.k (Dy p) (valF (BW [61] (C4 p))).1.y (valF (BW [61] (C4 p))).1.e .nil .nil ((valF (BW [61] (C4 p))).1.a.getD []) [] [] no,BW [59] (valF (BW [61] (C4 p))).2)
def CT:Nat->Pr->R Sm
 |0,p=>(sm0 p.n,p)
 |f+1,p=>if (eT p&&decide (200<=p.n))=true then (sm0 p.n,D6 53 p) else HR (CT f) p.n (nxt p)
abbrev A6b:Pr->R (List Sm):=stmtsW (CT 41)
theorem PQ(h:okP p):Nx p (nxt p):=⟨h,rfl,rfl,Int.le_refl _,rfl,λ_=>⟨rfl,rfl⟩⟩
theorem Uy(h:okP p):Nx p (valF p).2:=by
 unfold valF
 split
 .rename_i hi;exact Av h hi
 split
 .rename_i hi;have h1:=Av h hi;exact h1.trans (FX h1.ok)
 split
 .rename_i hi;have h1:=Av h hi;exact h1.trans (FX h1.ok)
 have key:∀t,ahB t p=true->Nx p (adv (C4 p)):=by
  intro t hb
  unfold ahB at hb
  simp only[Bool.and_eq_true,decide_eq_true_eq]at hb
  have hn:=hb.1.1
  have h1:=FX h
  have e:C4 p=adv p:=by unfold C4;rw[if_pos hn]
  rw[e]at h1 ⊢
  have e2:=Iw h (Je hn).2
  have h3:w64i (p.i+1)=p.i+1:=e2
  rw[h3]at hb
  exact h1.trans (En h1.ok (by rw[e2];exact hb.1.2) (Je hn).1)
 split
 .rename_i hb
  have h1:=key _ hb
  have h2:=h1.trans (Di h1.ok)
  exact h2.trans (Ae h2.ok)
 split
 .rename_i hb
  have h1:=key _ hb
  exact h1.trans (Pm h1.ok)
 exact Di h
theorem Rx{st:Pr->R Sm}(hu:∀p,okP p->Nx p (st p).2):∀(k:Nat) (l:List Sm) (p:Pr),okP p->Nx p (stmtsL st k l p).2
 |0,l,p,h=>.refl h
 |k+1,l,p,h=>by
  simp only[stmtsL]
  split
  .split
   .rename_i hi;exact Av h hi
   split
   .exact FP 51 h
   have h1:=hu p h
   exact h1.trans (Rx hu k _ _ h1.ok)
  exact .refl h
theorem Y8{st:Pr->R Sm}(hu:∀p,okP p->Nx p (st p).2)(h:okP p):Nx p (stmtsW st p).2:=Rx hu _ _ _ h
theorem LV{st:Pr->R Sm}(hu:∀p,okP p->Nx p (st p).2)(h:okP p):Nx p (blkW st p).2:=by
 unfold blkW
 split
 .rename_i hi
  split
  .rename_i hb
   have h1:=EY h hb (B6 hi).2
   exact PW h hb (h1.trans (Y8 hu h1.ok))
  rename_i hb;exact L3 h (by simpa using hb)
 exact FP 51 h
theorem PR(h:okP p)(hi:isT t p=true):Nx p (ifC p).2:=by
 have h1:=Av h hi
 have h2:=h1.trans (Ae (t:=[40]) h1.ok)
 exact h2.trans (SD h2.ok)
theorem PS{st:Pr->R Sm}(hu:∀p,okP p->Nx p (st p).2)(h:okP p)(hi:isT t p=true):Nx p (ifB (blkW st) p).2:=by
 have h1:=PR h hi
 have h2:=h1.trans (Ae (t:=[41]) h1.ok)
 exact h2.trans (LV hu h2.ok)
theorem rS{st:Pr->R Sm}(hu:∀p,okP p->Nx p (st p).2)(no:Int)(h:okP p):Nx p (HR st no p).2:=by
 unfold HR
 split
 .rename_i hi
  have h1:=Av h hi
  have h2:=h1.trans (Di h1.ok)
  exact h2.trans (Ae h2.ok)
 split
 .rename_i hi
  have h1:=PR h hi
  have h2:=h1.trans (Ae (t:=[41]) h1.ok)
  exact h2.trans (Ae h2.ok)
 split
 .rename_i hi;exact PS hu h hi
 split
 .rename_i hi
  split
  .rename_i hi2
   have h1:=PS hu h hi
   have h2:=h1.trans (Av h1.ok hi2)
   exact h2.trans (LV hu h2.ok)
  exact PS hu h hi
 split
 .rename_i hi
  have h1:=Av h hi
  have h2:=h1.trans (FX h1.ok)
  have h3:=h2.trans (Ae (t:=[61]) h2.ok)
  have h4:=h3.trans (Di h3.ok)
  exact h4.trans (Ae h4.ok)
 have hn:=FX h
 split
 .rename_i hi
  have h1:=hn.trans (Av hn.ok hi)
  have h2:=h1.trans (Pm h1.ok)
  exact h2.trans (Ae h2.ok)
 split
 .rename_i hi
  have h1:=hn.trans (Av hn.ok hi)
  have h2:=h1.trans (Di h1.ok)
  have h3:=h2.trans (Ae (t:=[93]) h2.ok)
  have h4:=h3.trans (Ae (t:=[61]) h3.ok)
  have h5:=h4.trans (Di h4.ok)
  exact h5.trans (Ae h5.ok)
 have h1:=hn.trans (Ae (t:=[61]) hn.ok)
 have h2:=h1.trans (Uy h1.ok)
 exact h2.trans (Ae h2.ok)
theorem L2:∀(f:Nat) (p:Pr),okP p->Nx p (CT f p).2
 |0,p,h=>.refl h
 |f+1,p,h=>by
  simp only[CT]
  split
  .exact FP 53 h
  have h1:=PQ h
  exact h1.trans (rS (L2 f) _ h1.ok)
theorem eU(h:okP p)(hb:ahB t p=true):nameB p=true/\p.i+1<(p.l.length:Int)/\IntKind.i64.wrap (p.i+1)=p.i+1/\((p.l.getD (p.i+1).toNat tk0).t==t)=true:=by
 have n5:IntKind.i64.wrap (p.i+1)=p.i+1:=by obtain⟨h1,h2,h3,_⟩:=h;exact wrap_i64 (by omega) (by omega)
 unfold ahB tkA at hb
 simp only[w64i,n5,Bool.and_eq_true,decide_eq_true_eq]at hb
 exact⟨hb.1.1,hb.1.2,n5,hb.2⟩
theorem Ry(h:okP p)(hb:ahB t p=true):Nx p (adv (C4 p)):=by
 obtain⟨hn,h2,h3,_⟩:=eU h hb
 have h1:=FX h
 have e:C4 p=adv p:=by unfold C4;rw[if_pos hn]
 rw[e]at h1 ⊢
 have e2:=Iw h (Je hn).2
 exact h1.trans (En h1.ok (by rw[e2];exact h2) (Je hn).1)
theorem PT{q:Pr}(h:okP q)(hi:p.i<=q.i)(h0:(BW t q).e=0):p.i+1<=(BW t q).i:=by rw[V2 h h0];omega
theorem rT{st:Pr->R Sm}(hu:∀p,okP p->Nx p (st p).2)(no:Int)(h:okP p)(h0:(HR st no p).2.e=0):p.i+1<=(HR st no p).2.i:=by
 have hB:∀{t:List UInt8},isT t p=true->p.i+1<=(ifB (blkW st) p).2.i:=by
  intro t hi
  have h1:=Av h hi
  have h2:=Ae (t:=[40]) h1.ok
  have h3:=h2.trans (SD h2.ok)
  have h4:=h3.trans (Ae (t:=[41]) h3.ok)
  have h5:=(h4.trans (LV hu h4.ok)).i
  rw[Iw h (B6 hi).2]at h5
  exact h5
 have hn:=FX h
 revert h0
 unfold HR
 split
 .rename_i hi
  intro h0
  have h1:=Av h hi
  have h2:=h1.trans (Di h1.ok)
  exact PT h2.ok h2.i h0
 split
 .rename_i hi
  intro h0
  have h1:=PR h hi
  have h2:=h1.trans (Ae (t:=[41]) h1.ok)
  exact PT h2.ok h2.i h0
 split
 .rename_i hi;exact λ_=>hB hi
 split
 .rename_i hi
  split
  .rename_i hi2
   intro _
   have h1:=PS hu h hi
   have h2:=Av h1.ok hi2
   have h3:=(h2.trans (LV hu h2.ok)).i
   exact Int.le_trans (hB hi) h3
  exact λ_=>hB hi
 split
 .rename_i hi
  intro h0
  have h1:=Av h hi
  have h2:=h1.trans (FX h1.ok)
  have h3:=h2.trans (Ae (t:=[61]) h2.ok)
  have h4:=h3.trans (Di h3.ok)
  exact PT h4.ok h4.i h0
 split
 .rename_i hi
  intro h0
  have h1:=hn.trans (Av hn.ok hi)
  have h2:=h1.trans (Pm h1.ok)
  exact PT h2.ok h2.i h0
 split
 .rename_i hi
  intro h0
  have h1:=hn.trans (Av hn.ok hi)
  have h2:=h1.trans (Di h1.ok)
  have h3:=h2.trans (Ae (t:=[93]) h2.ok)
  have h4:=h3.trans (Ae (t:=[61]) h3.ok)
  have h5:=h4.trans (Di h4.ok)
  exact PT h5.ok h5.i h0
 intro h0
 have h1:=hn.trans (Ae (t:=[61]) hn.ok)
 have h2:=h1.trans (Uy h1.ok)
 exact PT h2.ok h2.i h0
theorem KL{c:Int}(hc:c≠0)(p:Pr):(D6 c p).e≠0:=by
 unfold D6
 split
 .exact hc
 rename_i h;simpa using h
theorem gq(f:Nat)(h:okP p)(h0:(CT (f+1) p).2.e=0):p.i+1<=(CT (f+1) p).2.i:=by
 revert h0
 simp only[CT]
 split
 .exact λh0=>absurd h0 (KL (by decide) p)
 exact λh0=>rT (L2 f) _ (PQ h).ok h0
theorem G6{f:Nat}{q:Pr}(h:Nx p q)(hd:dpU f p):dpU f q:=by unfold dpU;rw[h.d];exact hd
end Go.Proofs.YtapedeoheilnnaaGreat
