/- Statements, functions, in plain words. No conditions but those in each statement. -/
import Derived.Test.YtbiepiggmagfcaaGreatDoorPn
import Derived.Test.YtbiepiggmagfcaaGreatDoorGs
set_option linter.unusedVariables false
set_option linter.unusedSimpArgs false
set_option maxRecDepth 20000
set_option maxHeartbeats 8000000
namespace Go.Proofs.YtbiepiggmagfcaaGreatDoor
open Go Go.Sy Go.RowKit
abbrev Sa:List UInt8:=[110,117,108,108]
abbrev UG:List UInt8:=[114,101,116,117,114,110]
abbrev PQ:List UInt8:=[97,115,115,101,114,116]
abbrev tIf:List UInt8:=[105,102]
abbrev PR:List UInt8:=[119,104,105,108,101]
abbrev FF:List UInt8:=[101,108,115,101]
abbrev RK:List UInt8:=[118,97,114]
abbrev tPtr:List UInt8:=[112,116,114]
abbrev tFn:List UInt8:=[102,110]
structure VR where
 k:Int
 y:List UInt8
 e:Ex
 a:Option (List Ar)
def ahB (t:List UInt8) (p:Pr):Bool:=nameB p&&decide (Ad (p.i+1)<(p.l.length:Int))&&(tkA p (Ad (p.i+1))).t==t
def BF (p:Pr):R VR:=
 if isT Sa p=true then (⟨3,[],.nil,none⟩,adv p)
 else if isT [38] p=true then (⟨1,Bi (adv p),.nil,none⟩,Ai (adv p))
 else if isT [42] p=true then (⟨4,Bi (adv p),.nil,none⟩,Ai (adv p))
 else if ahB [91] p=true then (⟨6,Bi p,(exS (adv (Ai p))).1,none⟩,AD [93] (exS (adv (Ai p))).2)
 else if ahB [40] p=true then (⟨8,Bi p,.nil,some (Cw (adv (Ai p))).1⟩,(Cw (adv (Ai p))).2)
 else (⟨0,[],(exS p).1,none⟩,(exS p).2)
def nxt (p:Pr):Pr:={ p with n:=Ad (p.n+1) }
def X2 (p:Pr):Bool:=nameB p||isT [42] p||isT UG p||isT PQ p||isT tIf p||isT PR p
def sm0 (no:Int):Sm:=.mk 0 [] [] .nil .nil .nil [] [] [] no
def stmtsL (st:Pr→R Sm):Nat→List Sm→Pr→R (List Sm)
 |0,l,p=>(l,p)
 |k+1,l,p=>
  if (p.e==0)=true then
   (
    if isT [125] p=true then (l,adv p)
    else if decide ((p.l.length:Int)≤p.i)=true then ([],BG 51 p)
    else stmtsL st k (l++[(st p).1]) (st p).2)
  else (l,p)
def stmtsW (st:Pr→R Sm) (p:Pr):R (List Sm):=stmtsL st (p.l.length+1) [] p
def blkW (st:Pr→R Sm) (p:Pr):R (List Sm):=
 if isT [123] p=true then
  (if C7 p=true then ((stmtsW st (adv (AG p))).1,shut (stmtsW st (adv (AG p))).2) else ([],AG p))
 else ([],BG 51 p)
def ifC (p:Pr):R Cd:=cdS (AD [40] (adv p))
def ifB (blk:Pr→R (List Sm)) (p:Pr):R (List Sm):=blk (AD [41] (ifC p).2)
def Cy (st:Pr→R Sm) (no:Int) (p:Pr):R Sm:=
 if isT UG p=true then (.mk 9 [] [] (exS (adv p)).1 .nil .nil [] [] [] no,AD [59] (exS (adv p)).2)
 else if isT PQ p=true then (.mk 12 [] [] .nil .nil (ifC p).1 [] [] [] no,AD [59] (AD [41] (ifC p).2))
 else if isT PR p=true then (.mk 11 [] [] .nil .nil (ifC p).1 [] (ifB (blkW st) p).1 [] no,(ifB (blkW st) p).2)
 else if isT tIf p=true then
  (if isT FF (ifB (blkW st) p).2=true then
   (.mk 10 [] [] .nil .nil (ifC p).1 [] (ifB (blkW st) p).1 (blkW st (adv (ifB (blkW st) p).2)).1 no,(blkW st (adv (ifB (blkW st) p).2)).2)
   else (.mk 10 [] [] .nil .nil (ifC p).1 [] (ifB (blkW st) p).1 [] no,(ifB (blkW st) p).2))
 else if isT [42] p=true then
  (.mk 5 (Bi (adv p)) [] (exS (AD [61] (Ai (adv p)))).1 .nil .nil [] [] [] no,AD [59] (exS (AD [61] (Ai (adv p)))).2)
 else if isT [40] (Ai p)=true then
  (.mk 8 [] (Bi p) .nil .nil .nil (Cw (adv (Ai p))).1 [] [] no,AD [59] (Cw (adv (Ai p))).2)
 else if isT [91] (Ai p)=true then
  (.mk 7 [] (Bi p) (exS (adv (Ai p))).1 (exS (AD [61] (AD [93] (exS (adv (Ai p))).2))).1 .nil [] [] [] no,AD [59] (exS (AD [61] (AD [93] (exS (adv (Ai p))).2))).2)
 else (.mk (BF (AD [61] (Ai p))).1.k (Bi p) (BF (AD [61] (Ai p))).1.y (BF (AD [61] (Ai p))).1.e .nil .nil ((BF (AD [61] (Ai p))).1.a.getD []) [] [] no,AD [59] (BF (AD [61] (Ai p))).2)
def AW:Nat→Pr→R Sm
 |0,p=>(sm0 p.n,p)
 |f+1,p=>if (X2 p&&decide (200≤p.n))=true then (sm0 p.n,BG 53 p) else Cy (AW f) p.n (nxt p)
abbrev A7p:Pr→R (List Sm):=stmtsW (AW 41)
theorem Sb {p:Pr} (h:okP p):Nx p (nxt p):=⟨h,rfl,rfl,Int.le_refl _,rfl,fun _=>⟨rfl,rfl⟩⟩
theorem X3 {p:Pr} (h:okP p):Nx p (BF p).2:=by
 unfold BF
 split
 ·rename_i hi;exact AV h hi
 split
 ·rename_i hi;have h1:=AV h hi;exact h1.trans (DO h1.ok)
 split
 ·rename_i hi;have h1:=AV h hi;exact h1.trans (DO h1.ok)
 have key:∀t,ahB t p=true→Nx p (adv (Ai p)):=by
  intro t hb
  unfold ahB at hb
  simp only[Bool.and_eq_true,decide_eq_true_eq]at hb
  have hn:=hb.1.1
  have h1:=DO h
  have e:Ai p=adv p:=by unfold Ai;rw[if_pos hn]
  rw[e]at h1 ⊢
  have e2:=DF h (G6 hn).2
  have h3:Ad (p.i+1)=p.i+1:=e2
  rw[h3]at hb
  exact h1.trans (C8 h1.ok (by rw[e2];exact hb.1.2) (G6 hn).1)
 split
 ·rename_i hb
  have h1:=key _ hb
  have h2:=h1.trans (CU h1.ok)
  exact h2.trans (Ae h2.ok)
 split
 ·rename_i hb
  have h1:=key _ hb
  exact h1.trans (Qd h1.ok)
 ·exact CU h
theorem V7 {st:Pr→R Sm} (hu:∀p,okP p→Nx p (st p).2):∀(k:Nat) (l:List Sm) (p:Pr),okP p→Nx p (stmtsL st k l p).2
 |0,l,p,h=>.refl h
 |k+1,l,p,h=>by
  simp only[stmtsL]
  split
  ·split
   ·rename_i hi;exact AV h hi
   ·split
    ·exact DG 51 h
    ·have h1:=hu p h
     exact h1.trans (V7 hu k _ _ h1.ok)
  ·exact .refl h
theorem V8 {st:Pr→R Sm} (hu:∀p,okP p→Nx p (st p).2) {p:Pr} (h:okP p):Nx p (stmtsW st p).2:=V7 hu _ _ _ h
theorem Kw {st:Pr→R Sm} (hu:∀p,okP p→Nx p (st p).2) {p:Pr} (h:okP p):Nx p (blkW st p).2:=by
 unfold blkW
 split
 ·rename_i hi
  split
  ·rename_i hb
   have h1:=DH h hb (Aa hi).2
   exact F5 h hb (h1.trans (V8 hu h1.ok))
  ·rename_i hb;exact Js h (by simpa using hb)
 ·exact DG 51 h
theorem Sc {p:Pr} {t:List UInt8} (h:okP p) (hi:isT t p=true):Nx p (ifC p).2:=by
 have h1:=AV h hi
 have h2:=h1.trans (Ae (t:=[40]) h1.ok)
 exact h2.trans (PL h2.ok)
theorem PS {st:Pr→R Sm} (hu:∀p,okP p→Nx p (st p).2) {p:Pr} {t:List UInt8} (h:okP p) (hi:isT t p=true):Nx p (ifB (blkW st) p).2:=by
 have h1:=Sc h hi
 have h2:=h1.trans (Ae (t:=[41]) h1.ok)
 exact h2.trans (Kw hu h2.ok)
theorem qY {st:Pr→R Sm} (hu:∀p,okP p→Nx p (st p).2) (no:Int) {p:Pr} (h:okP p):Nx p (Cy st no p).2:=by
 unfold Cy
 split
 ·rename_i hi
  have h1:=AV h hi
  have h2:=h1.trans (CU h1.ok)
  exact h2.trans (Ae h2.ok)
 split
 ·rename_i hi
  have h1:=Sc h hi
  have h2:=h1.trans (Ae (t:=[41]) h1.ok)
  exact h2.trans (Ae h2.ok)
 split
 ·rename_i hi;exact PS hu h hi
 split
 ·rename_i hi
  split
  ·rename_i hi2
   have h1:=PS hu h hi
   have h2:=h1.trans (AV h1.ok hi2)
   exact h2.trans (Kw hu h2.ok)
  ·exact PS hu h hi
 split
 ·rename_i hi
  have h1:=AV h hi
  have h2:=h1.trans (DO h1.ok)
  have h3:=h2.trans (Ae (t:=[61]) h2.ok)
  have h4:=h3.trans (CU h3.ok)
  exact h4.trans (Ae h4.ok)
 have hn:=DO h
 split
 ·rename_i hi
  have h1:=hn.trans (AV hn.ok hi)
  have h2:=h1.trans (Qd h1.ok)
  exact h2.trans (Ae h2.ok)
 split
 ·rename_i hi
  have h1:=hn.trans (AV hn.ok hi)
  have h2:=h1.trans (CU h1.ok)
  have h3:=h2.trans (Ae (t:=[93]) h2.ok)
  have h4:=h3.trans (Ae (t:=[61]) h3.ok)
  have h5:=h4.trans (CU h4.ok)
  exact h5.trans (Ae h5.ok)
 ·have h1:=hn.trans (Ae (t:=[61]) hn.ok)
  have h2:=h1.trans (X3 h1.ok)
  exact h2.trans (Ae h2.ok)
theorem Jv:∀(f:Nat) (p:Pr),okP p→Nx p (AW f p).2
 |0,p,h=>.refl h
 |f+1,p,h=>by
  simp only[AW]
  split
  ·exact DG 53 h
  ·have h1:=Sb h
   exact h1.trans (qY (Jv f) _ h1.ok)
end Go.Proofs.YtbiepiggmagfcaaGreatDoor
namespace Go.Proofs.YtbiepiggmagfcaaGreatDoor
open Go Go.Sy Go.RowKit
theorem Sd {t:List UInt8} {p:Pr} (h:okP p) (h0:(AD t p).e=0):(AD t p).i=p.i+1:=by
 unfold AD at h0 ⊢
 cases ic:isT t p with
 |true=>rw[ic]at h0;rw[if_pos rfl];exact DF h (Aa ic).2
 |false=>
  rw[ic,if_neg (by decide)]at h0
  unfold BG at h0
  split at h0
  ·exact absurd h0 (show ¬((51:Int)=0) by decide)
  ·rename_i hne;exact absurd (by simpa using h0) hne
abbrev arS (l:List Ar):C:=.d (.sl zAr (l.map Ar.r))
abbrev NR (p:Pr):Prop:=okP p
abbrev J2 (p:Pr):SV:=.one (arS (Cw p).1)
abbrev G8 (p:Pr):List (Option MV):=[some (zPr,[(Cw p).2.c])]
noncomputable abbrev J3:ArgM ((Pr)×Unit):=(amP (mPr) am0)
abbrev qZ:Prop:=BD Tryz.prog 98 ((J3).args 0) (J3).mem (fun p:(Pr)×Unit=>NR p.1) (fun p:(Pr)×Unit=>J2 p.1) (fun p:(Pr)×Unit=>G8 p.1)
theorem qc:∀p,(fun p:(Pr)×Unit=>NR p.1) p→BA ((J3).mem p).length ((fun p:(Pr)×Unit=>G8 p.1) p)=true:=by intro p _;rfl
theorem qd:∀p,(fun p:(Pr)×Unit=>NR p.1) p→AQ ((fun p:(Pr)×Unit=>G8 p.1) p).length ((fun p:(Pr)×Unit=>J2 p.1) p)=true:=by intro p _;first|rfl|exact AK _ _|exact AL _ _|(simp[AQ,Bn,AK,AL];done)
theorem qe:∀p,(fun p:(Pr)×Unit=>NR p.1) p→∀q,some q∈(fun p:(Pr)×Unit=>G8 p.1) p→∀r∈q.2,∀c∈r,c.names=[]:=by intro p _;exact DY _
attribute [local go_sem] Pr.c Tok.r Ke KQ Ju KP KO Ji ptR KN Jt B4 Kb HP Jq Av Bo BV Au BW Ap BE GG D1 zAc zTk
theorem xD:qZ:=by
 rintro ⟨p,_u⟩ w M I lab fz xs hc hA hl hx
 refine AJ Tryz.func98 rfl _ w M I lab fz [Ap,BE,UF] [] _ _ _ xs hA hl hx (fun v hv k hk=>by have:=(J3).an 0 ⟨p,_u⟩ v hv k hk;omega) (jN rfl) (jN rfl) ?_
 clear hx hl hA xs
 simp only[Tryz.f98]
 have hc1:okP p:=hc
 cases i0:isT [41] p with
 |true=>
  have hr:Cw p=([],adv p):=by simp[Cw,i0]
  simp only[↓eB,seval,go_sem,i0]
  try simp only[A1,A2]
  repeat' first|exact ck|with_reducible apply And.intro|intro _
  all_goals first|exact hc1|(rename_i h;first|exact oI h|exact nah h)|(rename_i _ h _ g;exact sL h g)|decide|omega|(refine A0 [] ?_;simp only[↓eB,seval,go_sem,bne,J2,G8,hr,arS,adv])
 |false=>
 have hr:Cw p=GQ (p.l.length+1) [] p:=by simp[Cw,i0]
 simp only[↓eB,seval,go_sem,i0]
 refine⟨hc1,?_⟩
 refine AH (Y:=Nat×List Ar×Pr) (fun y=>okP y.2.2∧(y.2.2.e=0→(y.2.2.l.length:Int)+1≤y.2.2.i+(y.1:Int))∧(y.2.2.e=0→(y.2.1.length:Int)≤y.2.2.i)∧GQ y.1 y.2.1 y.2.2=Cw p)
  (fun y=>⟨[(0,true,.one (.p 0 0 0)),(3,true,.one (.s 1000))],[(0,.vec 0 zPr [y.2.2.c]),(1000,.vec 0 zAc (y.2.1.map Ar.c))]⟩)
  (fun y=>y.1) (p.l.length+1,[],p) ⟨hc1,fun _=>by have:=hc1.1;simp only;omega,fun _=>by simpa using hc1.1,hr.symm⟩ ?_ ?_
 ·refine A4 [.nil 3 1000 zAc] ?_;simp only[↓eB,seval,go_sem]
 ·rintro ⟨k,l,q⟩ ⟨h1,h2,h3,h4⟩
  refine Ab [Ap,BE,UF] [] _ _ _ ?_
  dsimp only at h1 h2 h3 h4
  cases he:(q.e==0) with
  |false=>
   have hr2:Cw p=([],q):=by rw[← h4];cases k<;>simp[GQ,he]
   simp only[↓eB,seval,go_sem,he]
   try simp only[A1,A2]
   repeat' first|exact ck|with_reducible apply And.intro|intro _
   all_goals first|exact h1|(rename_i h;first|exact oI h|exact nah h)|(rename_i _ h _ g;exact sL h g)|decide|omega|(refine A0 [] ?_;simp only[↓eB,seval,go_sem,bne,J2,G8,hr2,arS])
  |true=>
   have he0:q.e=0:=by simpa using he
   obtain⟨k',rfl⟩:∃k',k=k'+1:=⟨k-1,by have:=h2 he0;have:=h1.2.1;omega⟩
   simp only[GQ,he,if_true]at h4
   have hs:=CU h1
   have hle:l.length≤4096:=by have:=h3 he0;have:=h1.2.1;have:=h1.2.2.1;omega
   have hd:=Ij h1
   cases it:isT [41] (exS q).2 with
   |true=>
    rw[if_pos it]at h4
    have hb:=AV hs.ok it
    simp only[↓eB,seval,go_sem,he,it,adv,Ec.fn]
    try simp only[A1,A2]
    repeat' first|exact ck|with_reducible apply And.intro|intro _
    all_goals first|exact h1|exact hd|exact hs.ok|(rename_i h;first|exact oI h|exact nah h)|(rename_i _ h _ g;exact sL h g)|decide|omega|(refine A0 [.fz 16] ?_;simp only[↓eB,seval,go_sem,bne,J2,G8,← h4,arS,adv,zAr,Ec.ds1,List.map_append,Ar.r])
   |false=>
    rw[if_neg (by rw[it];decide)]at h4
    have hw:=Ae (t:=[44]) hs.ok
    simp only[↓eB,seval,go_sem,he,it,Ec.fn]
    try simp only[A1,A2]
    repeat' first|exact ck|with_reducible apply And.intro|intro _
    all_goals try first|exact h1|exact hd|exact hs.ok|(rename_i h;first|exact oI h|exact nah h)|(rename_i _ h _ g;exact sL h g)|decide|omega
    refine⟨(k',l++[⟨false,[],(exS q).1⟩],AD [44] (exS q).2),⟨hw.ok,?_,?_,h4⟩,Nat.lt_succ_self _,
     BP (t:=⟨[(0,true,.one (.p 0 0 0)),(3,true,.one (.s 16))],[(0,.vec 0 zPr [(AD [44] (exS q).2).c]),(16,.vec 0 zAc ((l++[(⟨false,[],(exS q).1⟩:Ar)]).map Ar.c))]⟩) (A4 [] ?_) (A4 [.mv 16 1000] ?_)⟩
    ·exact fun hw0=>by have h5:=h2 he0;have hi1:=hs.i;have e:=Sd hs.ok hw0;dsimp only;rw[hw.l,hs.l];omega
    ·exact fun hw0=>by have h5:=h3 he0;have hi1:=hs.i;have e:=Sd hs.ok hw0;simp only[jL3];omega
    ·simp only[↓eB,seval,go_sem,Ec.fn,List.flatMap_append,List.map_append,Ar.c]
    ·simp only[↓eB,seval,go_sem,Ec.fn,Ec.mv]
noncomputable def NS {X:Ctx} {w0:World}:Sy.Spec Tryz.prog X w0:=Be 98 Tryz.call98 (J3) (fun p:(Pr)×Unit=>NR p.1) (fun p:(Pr)×Unit=>J2 p.1) (fun p:(Pr)×Unit=>G8 p.1) qc qd qe xD
end Go.Proofs.YtbiepiggmagfcaaGreatDoor
namespace Go.Proofs.YtbiepiggmagfcaaGreatDoor
open Go Go.Sy Go.RowKit
def arO:Option (List Ar)→C
 |none=>.v (.slice none 0 0)
 |some l=>arS l
structure Sf where
 x:List UInt8
 no:Int
def Sf.c (s:Sf):List C:=[.v (.int .i64 0),.v (.string (bs s.x)),.v (.string (bs [])),.v (.pointer none),.v (.pointer none),.v (.pointer none),.v (.slice none 0 0),.v (.slice none 0 0),.v (.slice none 0 0),.v (.int .i64 s.no)]
def MX (s:Sf) (v:VR):List C:=[.v (.int .i64 v.k),.v (.string (bs s.x)),.v (.string (bs v.y)),exC v.e,.v (.pointer none),.v (.pointer none),arO v.a,.v (.slice none 0 0),.v (.slice none 0 0),.v (.int .i64 s.no)]
theorem A2l (s:Sf):∀c∈s.c,c.names=[]:=by
 intro c hc
 simp only[Sf.c,List.mem_cons,List.not_mem_nil,or_false]at hc
 rcases hc with rfl|rfl|rfl|rfl|rfl|rfl|rfl|rfl|rfl|rfl<;>rfl
theorem BI (o:Option (List Ar)):(arO o).names=[]:=by cases o<;>rfl
theorem Bj (o:Option (List Ar)):C.stor (arO o)=true:=by cases o<;>rfl
theorem Bl (o:Option (List Ar)):Cl (arO o)=true:=by cases o<;>rfl
theorem C4 (k u:Nat) (p:List (Nat×Nat)) (i j:Nat) (o:Option (List Ar)) (r:List C):ldc k u p i j (arO o::r)=arO o::ldc k u p i (j+1) r:=by cases o<;>rfl
theorem GW (o:Option (List Ar)):leC (arO o) (.d (.sl zAr ((o.getD []).map Ar.r)))=True:=by
 cases o with
 |none=>exact ES _
 |some l=>exact De _
theorem LZ:arO none= .v (.slice none 0 0):=rfl
theorem jy (l:List Ar):arO (some l)= .d (.sl zAr (l.map Ar.r)):=rfl
theorem xE (a b:Sf) (h:a.c=b.c):a=b:=by
 obtain⟨x,no⟩:=a
 obtain⟨x',no'⟩:=b
 simp only[Sf.c,List.cons.injEq,C.v.injEq,Value.int.injEq,Value.string.injEq,true_and,and_true]at h
 rw[bs_inj h.1,h.2]
noncomputable def mSf:RowM Sf:=KB zSc Sf.c A2l
theorem nG:mSf.z=zSc:=rfl
theorem nH:mSf.e=Sf.c:=rfl
theorem A2m (x:List UInt8) (no:Int):mSf.d [.v (.int .i64 0),.v (.string (bs x)),.v (.string (bs [])),.v (.pointer none),.v (.pointer none),.v (.pointer none),.v (.slice none 0 0),.v (.slice none 0 0),.v (.slice none 0 0),.v (.int .i64 no)]=some ⟨x,no⟩:=Fs xE ⟨x,no⟩
theorem qf (p:Pr) (s:Sf) (v:VR):∀q,some q∈[some ((zPr,[p.c]):MV),some ((zSc,[MX s v]):MV)]→∀r∈q.2,∀c∈r,c.names=[]:=by
 intro q hq r hr c hc
 simp only[List.mem_cons,List.not_mem_nil,or_false,jS]at hq
 rcases hq with rfl|rfl
 ·simp only[List.mem_singleton]at hr;subst hr;exact S9 p c hc
 ·simp only[List.mem_singleton]at hr;subst hr
  simp only[MX,List.mem_cons,List.not_mem_nil,or_false]at hc
  rcases hc with rfl|rfl|rfl|rfl|rfl|rfl|rfl|rfl|rfl|rfl<;>first|rfl|exact B8 _|exact BI _
theorem bj {t:List UInt8} {p:Pr} (h:okP p) (hb:ahB t p=true):nameB p=true∧p.i+1<(p.l.length:Int)∧IntKind.i64.wrap (p.i+1)=p.i+1∧((p.l.getD (p.i+1).toNat tk0).t==t)=true:=by
 have n5:IntKind.i64.wrap (p.i+1)=p.i+1:=by obtain⟨h1,h2,h3,_⟩:=h;exact wrap_i64 (by omega) (by omega)
 unfold ahB tkA at hb
 simp only[Ad,n5,Bool.and_eq_true,decide_eq_true_eq]at hb
 exact⟨hb.1.1,hb.1.2,n5,hb.2⟩
theorem X4 {t:List UInt8} {p:Pr} (h:okP p) (hb:ahB t p=true):Nx p (adv (Ai p)):=by
 obtain⟨hn,h2,h3,_⟩:=bj h hb
 have h1:=DO h
 have e:Ai p=adv p:=by unfold Ai;rw[if_pos hn]
 rw[e]at h1 ⊢
 have e2:=DF h (G6 hn).2
 exact h1.trans (C8 h1.ok (by rw[e2];exact h2) (G6 hn).1)
abbrev La (p:Pr) (s:Sf):Prop:=okP p
abbrev E9 (p:Pr) (s:Sf):SV:=.tup []
abbrev DI (p:Pr) (s:Sf):List (Option MV):=[some (zPr,[(BF p).2.c]),some (zSc,[MX s (BF p).1])]
noncomputable abbrev Gv:ArgM ((Pr)×(Sf)×Unit):=(amP (mPr) (amP (mSf) am0))
abbrev jz:Prop:=BD Tryz.prog 99 ((Gv).args 0) (Gv).mem (fun p:(Pr)×(Sf)×Unit=>La p.1 p.2.1) (fun p:(Pr)×(Sf)×Unit=>E9 p.1 p.2.1) (fun p:(Pr)×(Sf)×Unit=>DI p.1 p.2.1)
theorem kA:∀p,(fun p:(Pr)×(Sf)×Unit=>La p.1 p.2.1) p→BA ((Gv).mem p).length ((fun p:(Pr)×(Sf)×Unit=>DI p.1 p.2.1) p)=true:=by intro p _;rfl
theorem kB:∀p,(fun p:(Pr)×(Sf)×Unit=>La p.1 p.2.1) p→AQ ((fun p:(Pr)×(Sf)×Unit=>DI p.1 p.2.1) p).length ((fun p:(Pr)×(Sf)×Unit=>E9 p.1 p.2.1) p)=true:=by intro p _;first|rfl|exact AK _ _|exact AL _ _|(simp[AQ,Bn,AK,AL];done)
theorem kC:∀p,(fun p:(Pr)×(Sf)×Unit=>La p.1 p.2.1) p→∀q,some q∈(fun p:(Pr)×(Sf)×Unit=>DI p.1 p.2.1) p→∀r∈q.2,∀c∈r,c.names=[]:=by intro p _;exact qf _ _ _
attribute [local go_sem] Pr.c Sf.c Tok.r adv Ke KQ Ju KP KO nH nG Ji ptR KN Jt B4 Kb HP Jq NS Av Bo BV Au BW Ap BE GG D1 zTk
theorem qg:jz:=by
 rintro ⟨p,s,_u⟩ w M I lab fz xs hc hA hl hx
 refine AJ Tryz.func99 rfl _ w M I lab fz [Ap,Au,BV,BE,NS,UF] [] _ _ _ xs hA hl hx (fun v hv k hk=>by have:=(Gv).an 0 ⟨p,s,_u⟩ v hv k hk;omega) (jN rfl) (jN rfl) ?_
 clear hx hl hA xs
 simp only[Tryz.f99]
 have hc1:okP p:=hc
 have hI:=hc1.i
 have hdp:=Ij hc1
 cases i0:isT Sa p with
 |true=>
  have hr:BF p=(⟨3,[],.nil,none⟩,adv p):=by simp[BF,i0]
  simp only[↓eB,seval,go_sem,i0]
  try simp only[A1,A2]
  repeat' first|exact ck|with_reducible apply And.intro|intro _
  all_goals first|exact hI|exact hc1|(rename_i h;first|exact oI h|exact nah h)|(rename_i _ h _ g;exact sL h g)|decide|omega|(refine A0 [] ?_;simp only[↓eB,seval,go_sem,bne,E9,DI,hr,arS,MX,LZ,B3,zSc])
 |false=>
 cases i1:isT [38] p with
 |true=>
  have hr:BF p=(⟨1,Bi (adv p),.nil,none⟩,Ai (adv p)):=by simp[BF,i0,i1]
  have ha:=AV hc1 i1
  simp only[↓eB,seval,go_sem,i0,i1]
  try simp only[A1,A2]
  repeat' first|exact ck|with_reducible apply And.intro|intro _
  all_goals first|exact hI|exact hc1|exact ha.ok|(rename_i h;first|exact oI h|exact nah h)|(rename_i _ h _ g;exact sL h g)|decide|omega|(refine A0 [] ?_;simp only[↓eB,seval,go_sem,bne,E9,DI,hr,arS,MX,LZ,B3,zSc])
 |false=>
 cases i2:isT [42] p with
 |true=>
  have hr:BF p=(⟨4,Bi (adv p),.nil,none⟩,Ai (adv p)):=by simp[BF,i0,i1,i2]
  have ha:=AV hc1 i2
  simp only[↓eB,seval,go_sem,i0,i1,i2]
  try simp only[A1,A2]
  repeat' first|exact ck|with_reducible apply And.intro|intro _
  all_goals first|exact hI|exact hc1|exact ha.ok|(rename_i h;first|exact oI h|exact nah h)|(rename_i _ h _ g;exact sL h g)|decide|omega|(refine A0 [] ?_;simp only[↓eB,seval,go_sem,bne,E9,DI,hr,arS,MX,LZ,B3,zSc])
 |false=>
 have n5:IntKind.i64.wrap (p.i+1)=p.i+1:=by obtain⟨h1,h2,h3,_⟩:=hc1;exact wrap_i64 (by omega) (by omega)
 have q0:(0≤p.i+1)=True:=by have:=hc1.1;simp;omega
 cases i3:ahB [91] p with
 |true=>
  have hr:BF p=(⟨6,Bi p,(exS (adv (Ai p))).1,none⟩,AD [93] (exS (adv (Ai p))).2):=by simp[BF,i0,i1,i2,i3]
  obtain⟨hna,z1,_,z2⟩:=bj hc1 i3
  have z0:decide (p.i+1<(p.l.length:Int))=true:=by simp[z1]
  have z0':(p.i+1<(p.l.length:Int))=True:=by simp[z1]
  have ha:=X4 hc1 i3
  have hs:=CU ha.ok
  have hd:=Ij ha.ok
  simp only[↓eB,seval,go_sem,i0,i1,i2,hna,n5,q0,z0,z0',z2]
  try simp only[A1,A2]
  repeat' first|exact ck|with_reducible apply And.intro|intro _
  all_goals first|exact hI|exact hc1|exact ha.ok|exact hs.ok|exact hd|(rename_i h;first|exact oI h|exact nah h)|(rename_i _ h _ g;exact sL h g)|decide|omega|(refine A0 [] ?_;simp only[↓eB,seval,go_sem,bne,E9,DI,hr,arS,MX,LZ,B3,zSc])
 |false=>
 have g3:=i3
 unfold ahB tkA at g3
 simp only[Ad,n5]at g3
 cases i4:ahB [40] p with
 |true=>
  have hr:BF p=(⟨8,Bi p,.nil,some (Cw (adv (Ai p))).1⟩,(Cw (adv (Ai p))).2):=by simp[BF,i0,i1,i2,i3,i4]
  obtain⟨hna,z1,_,z2⟩:=bj hc1 i4
  have z0:decide (p.i+1<(p.l.length:Int))=true:=by simp[z1]
  have z0':(p.i+1<(p.l.length:Int))=True:=by simp[z1]
  have z3:((p.l.getD (p.i+1).toNat tk0).t==[91])=false:=by rw[hna,z0]at g3;simpa using g3
  have ha:=X4 hc1 i4
  simp only[↓eB,seval,go_sem,i0,i1,i2,hna,n5,q0,z0,z0',z2,z3]
  try simp only[A1,A2]
  repeat' first|exact ck|with_reducible apply And.intro|intro _
  all_goals first|exact hI|exact hc1|exact ha.ok|(rename_i h;first|exact oI h|exact nah h)|(rename_i _ h _ g;exact sL h g)|decide|omega|(refine A0 [] ?_;simp only[↓eB,seval,go_sem,bne,E9,DI,hr,arS,MX,jy,B3,zSc])
 |false=>
 have hr:BF p=(⟨0,[],(exS p).1,none⟩,(exS p).2):=by simp[BF,i0,i1,i2,i3,i4]
 have g4:=i4
 unfold ahB tkA at g4
 simp only[Ad,n5]at g4
 simp only[↓eB,seval,go_sem,i0,i1,i2,g3,g4,n5,q0]
 try simp only[A1,A2]
 repeat' first|exact ck|with_reducible apply And.intro|intro _
 all_goals first|exact hI|exact hc1|exact hdp|(assumption)|(simp only[Bool.and_eq_true,decide_eq_true_eq]at *;omega)|(rename_i h;first|exact oI h|exact nah h)|(rename_i _ h _ g;exact sL h g)|decide|omega|(refine A0 [] ?_;simp only[↓eB,seval,go_sem,bne,E9,DI,hr,arS,MX,LZ,B3,zSc])
noncomputable def RL {X:Ctx} {w0:World}:Sy.Spec Tryz.prog X w0:=Be 99 Tryz.call99 (Gv) (fun p:(Pr)×(Sf)×Unit=>La p.1 p.2.1) (fun p:(Pr)×(Sf)×Unit=>E9 p.1 p.2.1) (fun p:(Pr)×(Sf)×Unit=>DI p.1 p.2.1) kA kB kC qg
end Go.Proofs.YtbiepiggmagfcaaGreatDoor
