/- Statements, functions, in plain words. No conditions but those in each statement. -/
import Derived.Test.YtapedeoheilnnaaGreatPn
import Derived.Test.YtapedeoheilnnaaGreatGs
set_option linter.all false
set_option maxRecDepth 20000
set_option maxHeartbeats 8000000
namespace Go.Proofs.YtapedeoheilnnaaGreat
open Go Go.Sy Go.RowKit
theorem sY{P:Prop}(h:P:=by refine A1 [] ?_;simp only[seval,go_sem,bne,Jc,Jd,hr,arS,adv,PV,OO,Af,zSc]):P:=h
variable{p:Pr}{st:Pr->R Sm}{t:List UInt8}
abbrev qV:List UInt8:=[110,117,108,108]
abbrev mS:List UInt8:=[114,101,116,117,114,110]
abbrev mU:List UInt8:=[97,115,115,101,114,116]
abbrev tIf:List UInt8:=[105,102]
abbrev mV:List UInt8:=[119,104,105,108,101]
abbrev qW:List UInt8:=[101,108,115,101]
abbrev A6r:List UInt8:=[118,97,114]
abbrev tPtr:List UInt8:=[112,116,114]
abbrev tFn:List UInt8:=[102,110]
structure VR where
 k:Int
 y:List UInt8
 e:Ex
 a:Option (List Ar)
def ahB(t:List UInt8)(p:Pr):Bool:=nameB p&&decide (w64i (p.i+1)<(p.l.length:Int))&&(tkA p (w64i (p.i+1))).t==t
def valF(p:Pr):R VR:=
 if isT qV p=true then (⟨3,[],.nil,none⟩,adv p)
 else if isT [38] p=true then (⟨1,E3 (adv p),.nil,none⟩,CI (adv p))
 else if isT [42] p=true then (⟨4,E3 (adv p),.nil,none⟩,CI (adv p))
 else if ahB [91] p=true then (⟨6,E3 p,(exS (adv (CI p))).1,none⟩,Bd [93] (exS (adv (CI p))).2)
 else if ahB [40] p=true then (⟨8,E3 p,.nil,some (argW (adv (CI p))).1⟩,(argW (adv (CI p))).2)
 else (⟨0,[],(exS p).1,none⟩,(exS p).2)
def nxt(p:Pr):Pr:={ p with n:=w64i (p.n+1) }
def fE(p:Pr):Bool:=nameB p||isT [42] p||isT mS p||isT mU p||isT tIf p||isT mV p
def sm0(no:Int):Sm:=.mk 0 [] [] .nil .nil .nil [] [] [] no
def stmtsL(st:Pr->R Sm):Nat->List Sm->Pr->R (List Sm)
 |0,l,p=>(l,p)
 |k+1,l,p=>
  if (p.e==0)=true then
   (
    if isT [125] p=true then (l,adv p)
    else if decide ((p.l.length:Int)<=p.i)=true then ([],DK 51 p)
    else stmtsL st k (l++[(st p).1]) (st p).2)
  else (l,p)
def stmtsW(st:Pr->R Sm)(p:Pr):R (List Sm):=stmtsL st (p.l.length+1) [] p
def blkW(st:Pr->R Sm)(p:Pr):R (List Sm):=
 if isT [123] p=true then
  (if Fh p=true then ((stmtsW st (adv (CO p))).1,shut (stmtsW st (adv (CO p))).2) else ([],CO p))
 else ([],DK 51 p)
def ifC(p:Pr):R Cd:=cdS (Bd [40] (adv p))
def ifB(blk:Pr->R (List Sm))(p:Pr):R (List Sm):=blk (Bd [41] (ifC p).2)
def HW(st:Pr->R Sm)(no:Int)(p:Pr):R Sm:=
 if isT mS p=true then (.mk 9 [] [] (exS (adv p)).1 .nil .nil [] [] [] no,Bd [59] (exS (adv p)).2)
 else if isT mU p=true then (.mk 12 [] [] .nil .nil (ifC p).1 [] [] [] no,Bd [59] (Bd [41] (ifC p).2))
 else if isT mV p=true then (.mk 11 [] [] .nil .nil (ifC p).1 [] (ifB (blkW st) p).1 [] no,(ifB (blkW st) p).2)
 else if isT tIf p=true then
  (if isT qW (ifB (blkW st) p).2=true then
   (.mk 10 [] [] .nil .nil (ifC p).1 [] (ifB (blkW st) p).1 (blkW st (adv (ifB (blkW st) p).2)).1 no,(blkW st (adv (ifB (blkW st) p).2)).2)
   else (.mk 10 [] [] .nil .nil (ifC p).1 [] (ifB (blkW st) p).1 [] no,(ifB (blkW st) p).2))
 else if isT [42] p=true then
  (.mk 5 (E3 (adv p)) [] (exS (Bd [61] (CI (adv p)))).1 .nil .nil [] [] [] no,Bd [59] (exS (Bd [61] (CI (adv p)))).2)
 else if isT [40] (CI p)=true then
  (.mk 8 [] (E3 p) .nil .nil .nil (argW (adv (CI p))).1 [] [] no,Bd [59] (argW (adv (CI p))).2)
 else if isT [91] (CI p)=true then
  (.mk 7 [] (E3 p) (exS (adv (CI p))).1 (exS (Bd [61] (Bd [93] (exS (adv (CI p))).2))).1 .nil [] [] [] no,Bd [59] (exS (Bd [61] (Bd [93] (exS (adv (CI p))).2))).2)
 else (.mk (valF (Bd [61] (CI p))).1.k (E3 p) (valF (Bd [61] (CI p))).1.y (valF (Bd [61] (CI p))).1.e .nil .nil ((valF (Bd [61] (CI p))).1.a.getD []) [] [] no,Bd [59] (valF (Bd [61] (CI p))).2)
def Ce:Nat->Pr->R Sm
 |0,p=>(sm0 p.n,p)
 |f+1,p=>if (fE p&&decide (200<=p.n))=true then (sm0 p.n,DK 53 p) else HW (Ce f) p.n (nxt p)
abbrev A6s:Pr->R (List Sm):=stmtsW (Ce 41)
theorem Pj(h:okP p):Nx p (nxt p):=⟨h,rfl,rfl,Int.le_refl _,rfl,λ_=>⟨rfl,rfl⟩⟩
theorem VG(h:okP p):Nx p (valF p).2:=by
 unfold valF
 split
 .rename_i hi;exact B0 h hi
 split
 .rename_i hi;have h1:=B0 h hi;exact h1.trans (Fl h1.ok)
 split
 .rename_i hi;have h1:=B0 h hi;exact h1.trans (Fl h1.ok)
 have key:∀t,ahB t p=true->Nx p (adv (CI p)):=by
  intro t hb
  unfold ahB at hb
  simp only[Bool.and_eq_true,decide_eq_true_eq]at hb
  have hn:=hb.1.1
  have h1:=Fl h
  have e:CI p=adv p:=by unfold CI;rw[if_pos hn]
  rw[e]at h1 ⊢
  have e2:=J9 h (Jo hn).2
  have h3:w64i (p.i+1)=p.i+1:=e2
  rw[h3]at hb
  exact h1.trans (Ey h1.ok (by rw[e2];exact hb.1.2) (Jo hn).1)
 split
 .rename_i hb
  have h1:=key _ hb
  have h2:=h1.trans (Ds h1.ok)
  exact h2.trans (Ak h2.ok)
 split
 .rename_i hb
  have h1:=key _ hb
  exact h1.trans (QA h1.ok)
 exact Ds h
theorem S8(hu:∀p,okP p->Nx p (st p).2):∀(k:Nat) (l:List Sm) (p:Pr),okP p->Nx p (stmtsL st k l p).2
 |0,l,p,h=>.refl h
 |k+1,l,p,h=>by
  simp only[stmtsL]
  split
  .split
   .rename_i hi;exact B0 h hi
   split
   .exact FY 51 h
   have h1:=hu p h
   exact h1.trans (S8 hu k _ _ h1.ok)
  exact .refl h
theorem YK(hu:∀p,okP p->Nx p (st p).2)(h:okP p):Nx p (stmtsW st p).2:=S8 hu _ _ _ h
theorem Lc(hu:∀p,okP p->Nx p (st p).2)(h:okP p):Nx p (blkW st p).2:=by
 unfold blkW
 split
 .rename_i hi
  split
  .rename_i hb
   have h1:=Ef h hb (BA hi).2
   exact Ps h hb (h1.trans (YK hu h1.ok))
  exact AAZ
 exact FY 51 h
theorem Pk(h:okP p)(hi:isT t p=true):Nx p (ifC p).2:=by
 have h1:=B0 h hi
 have h2:=h1.trans (Ak (t:=[40]) h1.ok)
 exact h2.trans (SL h2.ok)
theorem Pl(hu:∀p,okP p->Nx p (st p).2)(h:okP p)(hi:isT t p=true):Nx p (ifB (blkW st) p).2:=by
 have h1:=Pk h hi
 have h2:=h1.trans (Ak (t:=[41]) h1.ok)
 exact h2.trans (Lc hu h2.ok)
theorem sS(hu:∀p,okP p->Nx p (st p).2)(no:Int)(h:okP p):Nx p (HW st no p).2:=by
 unfold HW
 split
 .rename_i hi
  have h1:=B0 h hi
  have h2:=h1.trans (Ds h1.ok)
  exact h2.trans (Ak h2.ok)
 split
 .rename_i hi
  have h1:=Pk h hi
  have h2:=h1.trans (Ak (t:=[41]) h1.ok)
  exact h2.trans (Ak h2.ok)
 split
 .rename_i hi;exact Pl hu h hi
 split
 .rename_i hi
  split
  .rename_i hi2
   have h1:=Pl hu h hi
   have h2:=h1.trans (B0 h1.ok hi2)
   exact h2.trans (Lc hu h2.ok)
  exact Pl hu h hi
 split
 .rename_i hi
  have h1:=B0 h hi
  have h2:=h1.trans (Fl h1.ok)
  have h3:=h2.trans (Ak (t:=[61]) h2.ok)
  have h4:=h3.trans (Ds h3.ok)
  exact h4.trans (Ak h4.ok)
 have hn:=Fl h
 split
 .rename_i hi
  have h1:=hn.trans (B0 hn.ok hi)
  have h2:=h1.trans (QA h1.ok)
  exact h2.trans (Ak h2.ok)
 split
 .rename_i hi
  have h1:=hn.trans (B0 hn.ok hi)
  have h2:=h1.trans (Ds h1.ok)
  have h3:=h2.trans (Ak (t:=[93]) h2.ok)
  have h4:=h3.trans (Ak (t:=[61]) h3.ok)
  have h5:=h4.trans (Ds h4.ok)
  exact h5.trans (Ak h5.ok)
 have h1:=hn.trans (Ak (t:=[61]) hn.ok)
 have h2:=h1.trans (VG h1.ok)
 exact h2.trans (Ak h2.ok)
theorem L9:∀(f:Nat) (p:Pr),okP p->Nx p (Ce f p).2
 |0,p,h=>.refl h
 |f+1,p,h=>by
  simp only[Ce]
  split
  .exact FY 53 h
  have h1:=Pj h
  exact h1.trans (sS (L9 f) _ h1.ok)
theorem fF(h:okP p)(hb:ahB t p=true):nameB p=true/\p.i+1<(p.l.length:Int)/\IntKind.i64.wrap (p.i+1)=p.i+1/\((p.l.getD (p.i+1).toNat tk0).t==t)=true:=by
 have n5:IntKind.i64.wrap (p.i+1)=p.i+1:=by obtain⟨h1,h2,h3,_⟩:=h;exact wrap_i64 (by omega) (by omega)
 unfold ahB tkA at hb
 simp only[w64i,n5,Bool.and_eq_true,decide_eq_true_eq]at hb
 exact⟨hb.1.1,hb.1.2,n5,hb.2⟩
theorem S9(h:okP p)(hb:ahB t p=true):Nx p (adv (CI p)):=by
 obtain⟨hn,h2,h3,_⟩:=fF h hb
 have h1:=Fl h
 have e:CI p=adv p:=by unfold CI;rw[if_pos hn]
 rw[e]at h1 ⊢
 have e2:=J9 h (Jo hn).2
 exact h1.trans (Ey h1.ok (by rw[e2];exact h2) (Jo hn).1)
theorem Pm{q:Pr}(h:okP q)(hi:p.i<=q.i)(h0:(Bd t q).e=0):p.i+1<=(Bd t q).i:=by rw[VK h h0];omega
theorem sT(hu:∀p,okP p->Nx p (st p).2)(no:Int)(h:okP p)(h0:(HW st no p).2.e=0):p.i+1<=(HW st no p).2.i:=by
 have hB:∀{t:List UInt8},isT t p=true->p.i+1<=(ifB (blkW st) p).2.i:=by
  intro t hi
  have h1:=B0 h hi
  have h2:=Ak (t:=[40]) h1.ok
  have h3:=h2.trans (SL h2.ok)
  have h4:=h3.trans (Ak (t:=[41]) h3.ok)
  have h5:=(h4.trans (Lc hu h4.ok)).i
  rw[J9 h (BA hi).2]at h5
  exact h5
 have hn:=Fl h
 revert h0
 unfold HW
 split
 .rename_i hi
  intro h0
  have h1:=B0 h hi
  have h2:=h1.trans (Ds h1.ok)
  exact Pm h2.ok h2.i h0
 split
 .rename_i hi
  intro h0
  have h1:=Pk h hi
  have h2:=h1.trans (Ak (t:=[41]) h1.ok)
  exact Pm h2.ok h2.i h0
 split
 .grind
 split
 .rename_i hi
  split
  .rename_i hi2
   intro _
   have h1:=Pl hu h hi
   have h2:=B0 h1.ok hi2
   have h3:=(h2.trans (Lc hu h2.ok)).i
   exact Int.le_trans (hB hi) h3
  grind
 split
 .rename_i hi
  intro h0
  have h1:=B0 h hi
  have h2:=h1.trans (Fl h1.ok)
  have h3:=h2.trans (Ak (t:=[61]) h2.ok)
  have h4:=h3.trans (Ds h3.ok)
  exact Pm h4.ok h4.i h0
 split
 .rename_i hi
  intro h0
  have h1:=hn.trans (B0 hn.ok hi)
  have h2:=h1.trans (QA h1.ok)
  exact Pm h2.ok h2.i h0
 split
 .rename_i hi
  intro h0
  have h1:=hn.trans (B0 hn.ok hi)
  have h2:=h1.trans (Ds h1.ok)
  have h3:=h2.trans (Ak (t:=[93]) h2.ok)
  have h4:=h3.trans (Ak (t:=[61]) h3.ok)
  have h5:=h4.trans (Ds h4.ok)
  exact Pm h5.ok h5.i h0
 intro h0
 have h1:=hn.trans (Ak (t:=[61]) hn.ok)
 have h2:=h1.trans (VG h1.ok)
 exact Pm h2.ok h2.i h0
theorem KU{c:Int}(hc:c≠0)(p:Pr):(DK c p).e≠0:=by
 unfold DK
 split
 .exact hc
 simp_all
theorem iR(f:Nat)(h:okP p)(h0:(Ce (f+1) p).2.e=0):p.i+1<=(Ce (f+1) p).2.i:=by
 revert h0
 simp only[Ce]
 split
 .exact λh0=>absurd h0 (KU (by decide) p)
 exact λh0=>sT (L9 f) _ (Pj h).ok h0
theorem GG{f:Nat}{q:Pr}(h:Nx p q)(hd:dpU f p):dpU f q:=by unfold dpU;rw[h.d];exact hd
abbrev arS(l:List Ar):C:=.d (.sl zAr (l.map Ar.r))
def arO:Option (List Ar)->C
 |none=>.v (.slice none 0 0)
 |some l=>arS l
structure Sf where
 x:List UInt8
 no:Int
def Sf.c(s:Sf):List C:=[.v (.int .i64 0),.v (.string (bs s.x)),.v (.string (bs [])),.v (.pointer none),.v (.pointer none),.v (.pointer none),.v (.slice none 0 0),.v (.slice none 0 0),.v (.slice none 0 0),.v (.int .i64 s.no)]
def PV(s:Sf)(v:VR):List C:=[.v (.int .i64 v.k),.v (.string (bs s.x)),.v (.string (bs v.y)),exC v.e,.v (.pointer none),.v (.pointer none),arO v.a,.v (.slice none 0 0),.v (.slice none 0 0),.v (.int .i64 s.no)]
theorem A4g(s:Sf):∀c∈s.c,c.names=[]:=by
 intro c hc
 simp only[Sf.c,List.mem_cons,List.not_mem_nil,or_false]at hc
 rcases hc with rfl|rfl|rfl|rfl|rfl|rfl|rfl|rfl|rfl|rfl<;>rfl
theorem DC(o:Option (List Ar)):(arO o).names=[]:=by cases o<;>rfl
theorem Du(o:Option (List Ar)):C.stor (arO o)=true:=by cases o<;>rfl
theorem Dv(o:Option (List Ar)):F3 (arO o)=true:=by cases o<;>rfl
theorem EX(k u:Nat)(p:List (Nat×Nat))(i j:Nat)(o:Option (List Ar))(r:List C):ldc k u p i j (arO o::r)=arO o::ldc k u p i (j+1) r:=by cases o<;>rfl
theorem KG(o:Option (List Ar)):leC (arO o) (.d (.sl zAr ((o.getD []).map Ar.r)))=True:=by
 cases o with
 |none=>exact Hv _
 |some l=>exact Gt _
theorem OO:arO none= .v (.slice none 0 0):=rfl
theorem oR(l:List Ar):arO (some l)= .d (.sl zAr (l.map Ar.r)):=rfl
theorem A0B(a b:Sf)(h:a.c=b.c):a=b:=by
 obtain⟨x,no⟩:=a
 obtain⟨x',no'⟩:=b
 simp only[Sf.c,List.cons.injEq,C.v.injEq,Value.int.injEq,Value.string.injEq,true_and,and_true]at h
 rw[bs_inj h.1,h.2]
noncomputable def mSf:RowM Sf:=MP zSc Sf.c A4g
theorem rO:mSf.z=zSc:=rfl
theorem rP:mSf.e=Sf.c:=rfl
theorem A4h(x:List UInt8)(no:Int):mSf.d [.v (.int .i64 0),.v (.string (bs x)),.v (.string (bs [])),.v (.pointer none),.v (.pointer none),.v (.pointer none),.v (.slice none 0 0),.v (.slice none 0 0),.v (.slice none 0 0),.v (.int .i64 no)]=some ⟨x,no⟩:=JG A0B ⟨x,no⟩
abbrev v9(p:Pr):Prop:=okP p
abbrev Qa(p:Pr):SV:=.one (arS (argW p).1)
abbrev Qb(p:Pr):List (Option MV):=[some (zPr,[(argW p).2.c])]
noncomputable abbrev Nj:ArgM ((Pr)×Unit):=(amP (mPr) am0)
abbrev vA:Prop:=C7 Tryz.prog 99 ((Nj).args 0) (Nj).mem (λp:(Pr)×Unit=>v9 p.1) (λp:(Pr)×Unit=>Qa p.1) (λp:(Pr)×Unit=>Qb p.1)
section
attribute [local go_sem] Pr.c zTk
theorem A0C:vA:=by
 rintro ⟨p,_u⟩ w M I lab fz xs hc hA hl hx
 refine Ac Tryz.func99 rfl ((Nj).mem ⟨p,_u⟩) w M I lab fz [A6,AG,XA] [] ((Nj).args 0 ⟨p,_u⟩) ((λp:(Pr)×Unit=>Qb p.1) ⟨p,_u⟩) ((λp:(Pr)×Unit=>Qa p.1) ⟨p,_u⟩) xs hA hl hx (λv hv k hk=>by have:=(Nj).an 0 ⟨p,_u⟩ v hv k hk;omega) (jN rfl) (jN rfl) ?_
 clear hx hl hA xs
 simp only[Tryz.f99]
 have hc1:okP p:=hc
 cases i0:isT [41] p with
 |true=>
  have hr:argW p=([],adv p):=by simp[argW,i0]
  simp only[seval,go_sem,AV,Bb,A7,AO,AN,AB,AG,AJ,A6,Dy,DX,Av,Au,Aw,Al,Tok.r,Ao,ptR,As,AR,AQ,AS,i0,Bt]
  repeat refine AX ?_
  refine A1 [] ?_;simp only[seval,go_sem,bne,Qa,Qb,hr,arS,adv]
 |false=>
 have hr:argW p=argL (p.l.length+1) [] p:=by simp[argW,i0]
 simp only[seval,go_sem,AV,Bb,A7,AO,AN,AB,AG,AJ,A6,Dy,DX,Av,Au,Aw,Al,Tok.r,Ao,ptR,As,AR,AQ,AS,i0,Bt]
 refine⟨hc1,?_⟩
 refine AC (Y:=Nat×List Ar×Pr) (λy=>okP y.2.2/\(y.2.2.e=0->(y.2.2.l.length:Int)+1<=y.2.2.i+(y.1:Int))/\(y.2.2.e=0->(y.2.1.length:Int)<=y.2.2.i)/\argL y.1 y.2.1 y.2.2=argW p)
  (λy=>⟨[(0,true,.one (.p 0 0 0)),(3,true,.one (.s 1000))],[(0,.vec 0 zPr [y.2.2.c]),(1000,.vec 0 zAc (y.2.1.map Ar.c))]⟩)
  (λy=>y.1) (p.l.length+1,[],p) ⟨hc1,λ_=>by have:=hc1.1;simp only;omega,λ_=>by simpa using hc1.1,hr.symm⟩ ?_ ?_
 .refine A2 [.nil 3 1000 zAc] ?_;simp only[seval,go_sem,zAc]
 rintro ⟨k,l,q⟩ ⟨h1,h2,h3,h4⟩
 refine AP [A6,AG,XA] [] _ _ _ ?_
 dsimp only at h1 h2 h3 h4
 cases he:(q.e==0) with
 |false=>
  have hr2:argW p=([],q):=by rw[<- h4];cases k<;>simp[argL,he]
  simp only[seval,go_sem,AV,Bb,A7,AO,AN,AB,AG,AJ,A6,Dy,DX,Av,Au,Aw,Al,Tok.r,Ao,ptR,As,AR,AQ,AS,he]
  repeat refine AX ?_
  refine A1 [] ?_;simp only[seval,go_sem,bne,Qa,Qb,hr2,arS]
 |true=>
 have he0:q.e=0:=by simpa using he
 obtain⟨k',rfl⟩:∃k',k=k'+1:=⟨k-1,by have:=h2 he0;have:=h1.2.1;omega⟩
 simp only[argL,he,if_true]at h4
 have hs:=Ds h1
 have hle:l.length<=4096:=by have:=h3 he0;have:=h1.2.1;have:=h1.2.2.1;omega
 have hd:=K8 h1
 cases it:isT [41] (exS q).2 with
 |true=>
  rw[if_pos it]at h4
  have hb:=B0 hs.ok it
  simp only[seval,go_sem,AV,Bb,A7,AO,AN,AB,AG,AJ,A6,Dy,DX,Av,Au,Aw,Al,Tok.r,Ao,ptR,As,AR,AQ,AS,he,it,Bt,adv,zAc,IE.fn]
  have:=hs.ok;repeat refine AX ?_
  refine A1 [.fz 16] ?_;simp only[seval,go_sem,bne,Qa,Qb,<- h4,arS,adv,zAr,IE.ds1,List.map_append,Ar.r]
 |false=>
 rw[if_neg (by rw[it];decide)]at h4
 have hw:=Ak (t:=[44]) hs.ok
 simp only[seval,go_sem,AV,Bb,A7,AO,AN,AB,AG,AJ,A6,Dy,DX,Av,Au,Aw,Al,Tok.r,Ao,ptR,As,AR,AQ,AS,he,it,Bt,zAc,IE.fn]
 have:=hs.ok;repeat refine AX ?_
 refine⟨(k',l++[⟨false,[],(exS q).1⟩],Bd [44] (exS q).2),⟨hw.ok,?_,?_,h4⟩,Nat.lt_succ_self _,
  BU (t:=⟨[(0,true,.one (.p 0 0 0)),(3,true,.one (.s 16))],[(0,.vec 0 zPr [(Bd [44] (exS q).2).c]),(16,.vec 0 zAc ((l++[(⟨false,[],(exS q).1⟩:Ar)]).map Ar.c))]⟩) (A2 [] ?_) (A2 [.mv 16 1000] ?_)⟩
 .exact λhw0=>by have h5:=h2 he0;have hi1:=hs.i;have e:=VK hs.ok hw0;dsimp only;rw[hw.l,hs.l];omega
 .exact λhw0=>by have h5:=h3 he0;have hi1:=hs.i;have e:=VK hs.ok hw0;simp only[jL3];omega
 .simp only[seval,go_sem,zAc,IE.fn,List.flatMap_append,List.map_append,Ar.c]
 simp only[seval,go_sem,zAc,IE.fn,IE.mv]
noncomputable def Iw{X:Ctx}{w0:World}:Sy.Spec Tryz.prog X w0:=D0 99 Tryz.call99 (Nj) _ _ _ KF1 KF0 KF4 A0C
end
open Go Go.Sy Go.RowKit
theorem vB(p:Pr)(s:Sf)(v:VR):∀q,some q∈[some ((zPr,[p.c]):MV),some ((zSc,[PV s v]):MV)]->∀r∈q.2,∀c∈r,c.names=[]:=by
 intro q hq r hr c hc
 simp only[List.mem_cons,List.not_mem_nil,or_false,jS]at hq
 rcases hq with rfl|rfl
 .simp only[List.mem_singleton]at hr;subst hr;exact WP p c hc
 simp only[List.mem_singleton]at hr;subst hr
 simp only[PV,List.mem_cons,List.not_mem_nil,or_false]at hc
 rcases hc with rfl|rfl|rfl|rfl|rfl|rfl|rfl|rfl|rfl|rfl<;>first|rfl|exact M2 _|exact DC _
abbrev oT(p:Pr)(s:Sf):Prop:=okP p
abbrev Jc(p:Pr)(s:Sf):SV:=.tup []
abbrev Jd(p:Pr)(s:Sf):List (Option MV):=[some (zPr,[(valF p).2.c]),some (zSc,[PV s (valF p).1])]
noncomputable abbrev Ls:ArgM ((Pr)×(Sf)×Unit):=(amP (mPr) (amP (mSf) am0))
abbrev oU:Prop:=C7 Tryz.prog 100 ((Ls).args 0) (Ls).mem (λp:(Pr)×(Sf)×Unit=>oT p.1 p.2.1) (λp:(Pr)×(Sf)×Unit=>Jc p.1 p.2.1) (λp:(Pr)×(Sf)×Unit=>Jd p.1 p.2.1)
section
attribute [local go_sem] Pr.c Sf.c Tok.r Ao Aw AR Av Au rP rO AS ptR As AQ Bt Al DX Dy Iw AB AV AJ A7 AN A6 AG Bb AO zTk
theorem vC:oU:=by
 rintro ⟨p,s,_u⟩ w M I lab fz xs hc hA hl hx
 refine Ac Tryz.func100 rfl ((Ls).mem ⟨p,s,_u⟩) w M I lab fz [A6,A7,AJ,AG,Iw,XA] [] ((Ls).args 0 ⟨p,s,_u⟩) ((λp:(Pr)×(Sf)×Unit=>Jd p.1 p.2.1) ⟨p,s,_u⟩) ((λp:(Pr)×(Sf)×Unit=>Jc p.1 p.2.1) ⟨p,s,_u⟩) xs hA hl hx (λv hv k hk=>by have:=(Ls).an 0 ⟨p,s,_u⟩ v hv k hk;omega) (jN rfl) (jN rfl) ?_
 clear hx hl hA xs
 simp only[Tryz.f100]
 have hc1:okP p:=hc
 have hI:=hc1.i
 have hdp:=K8 hc1
 cases i0:isT qV p with
 |true=>
  have hr:valF p=(⟨3,[],.nil,none⟩,adv p):=by simp[valF,i0]
  simp only[seval,go_sem,i0]
  repeat refine AX ?_
  exact sY
 |false=>
 cases i1:isT [38] p with
 |true=>
  have hr:valF p=(⟨1,E3 (adv p),.nil,none⟩,CI (adv p)):=by simp[valF,i0,i1]
  have ha:=B0 hc1 i1
  simp only[seval,go_sem,i0,i1,adv]
  have:=ha.ok;repeat refine AX ?_
  exact sY
 |false=>
 cases i2:isT [42] p with
 |true=>
  have hr:valF p=(⟨4,E3 (adv p),.nil,none⟩,CI (adv p)):=by simp[valF,i0,i1,i2]
  have ha:=B0 hc1 i2
  simp only[seval,go_sem,i0,i1,i2,adv]
  have:=ha.ok;repeat refine AX ?_
  exact sY
 |false=>
 have n5:IntKind.i64.wrap (p.i+1)=p.i+1:=by obtain⟨h1,h2,h3,_⟩:=hc1;exact wrap_i64 (by omega) (by omega)
 have q0:(0<=p.i+1)=True:=by have:=hc1.1;simp;omega
 cases i3:ahB [91] p with
 |true=>
  have hr:valF p=(⟨6,E3 p,(exS (adv (CI p))).1,none⟩,Bd [93] (exS (adv (CI p))).2):=by simp[valF,i0,i1,i2,i3]
  obtain⟨hna,z1,_,z2⟩:=fF hc1 i3
  have z0:decide (p.i+1<(p.l.length:Int))=true:=by simp[z1]
  have z0':(p.i+1<(p.l.length:Int))=True:=by simp[z1]
  have ha:=S9 hc1 i3
  have hs:=Ds ha.ok
  have hd:=K8 ha.ok
  simp only[seval,go_sem,i0,i1,i2,hna,n5,q0,z0,z0',z2]
  have:=ha.ok;have:=hs.ok;repeat refine AX ?_
  exact sY
 |false=>
 have g3:=i3
 unfold ahB tkA at g3
 simp only[w64i,n5]at g3
 cases i4:ahB [40] p with
 |true=>
  have hr:valF p=(⟨8,E3 p,.nil,some (argW (adv (CI p))).1⟩,(argW (adv (CI p))).2):=by simp[valF,i0,i1,i2,i3,i4]
  obtain⟨hna,z1,_,z2⟩:=fF hc1 i4
  have z0:decide (p.i+1<(p.l.length:Int))=true:=by simp[z1]
  have z0':(p.i+1<(p.l.length:Int))=True:=by simp[z1]
  have z3:((p.l.getD (p.i+1).toNat tk0).t==[91])=false:=by rw[hna,z0]at g3;simpa using g3
  have ha:=S9 hc1 i4
  simp only[seval,go_sem,i0,i1,i2,hna,n5,q0,z0,z0',z2,z3]
  have:=ha.ok;repeat refine AX ?_
  refine A1 [] ?_;simp only[seval,go_sem,bne,Jc,Jd,hr,arS,adv,PV,oR,Af,zSc]
 |false=>
 have hr:valF p=(⟨0,[],(exS p).1,none⟩,(exS p).2):=by simp[valF,i0,i1,i2,i3,i4]
 have g4:=i4
 unfold ahB tkA at g4
 simp only[w64i,n5]at g4
 simp only[seval,go_sem,i0,i1,i2,g3,g4,n5,q0]
 repeat' first|exact ck|with_reducible apply And.intro|intro _
 all_goals first|exact hI|exact hc1|exact hdp|(assumption)|(simp only[Bool.and_eq_true,decide_eq_true_eq]at *;omega)|exact KZ|(refine A1 [] ?_;simp only[seval,go_sem,bne,Jc,Jd,hr,arS,adv,PV,OO,Af,zSc])
noncomputable def Je{X:Ctx}{w0:World}:Sy.Spec Tryz.prog X w0:=D0 100 Tryz.call100 (Ls) _ _ _ KF1 KF0 (id (by intro p _;exact vB _ _ _)) vC
end
open Go Go.Sy Go.RowKit
abbrev smS(l:List Sm):C:=.d (.sl zSm (l.map Sm.r))
theorem A0D(n:Nat)(s:Sm):Rj n (.agg s.c)=true:=by
 show s.c.all (J8 n)=true
 unfold Sm.c
 simp only[List.all_cons,List.all_nil,bq,br,Bool.and_true]
 rfl
end Go.Proofs.YtapedeoheilnnaaGreat
