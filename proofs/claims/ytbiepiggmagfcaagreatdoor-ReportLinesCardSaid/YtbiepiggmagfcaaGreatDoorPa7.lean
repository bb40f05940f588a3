/- Statements, blocks, walked. No conditions but those in each statement. -/
import Derived.Test.YtbiepiggmagfcaaGreatDoorPo
set_option linter.unusedVariables false
set_option linter.unusedSimpArgs false
set_option maxRecDepth 20000
set_option maxHeartbeats 16000000
namespace Go.Proofs.YtbiepiggmagfcaaGreatDoor
open Go Go.Sy Go.RowKit
abbrev smS (l:List Sm):C:=.d (.sl zSm (l.map Sm.r))
theorem wV (n:Nat) (s:Sm):AQ n (.agg s.c)=true:=by
 show s.c.all (Bn n)=true
 unfold Sm.c
 simp only[List.all_cons,List.all_nil,AK,AL,Bool.and_true]
 rfl
abbrev N8 (f:Nat) (p:Pr):Prop:=okP p∧dpU f p
abbrev DD (f:Nat) (p:Pr):SV:=.agg (AW f p).1.c
abbrev Co (f:Nat) (p:Pr):List (Option MV):=[some (zPr,[(AW f p).2.c])]
noncomputable abbrev Ik:ArgM ((Pr)×Unit):=(amP (mPr) am0)
abbrev Ku (f:Nat):Prop:=BD Tryz.prog 70 ((Ik).args 0) (Ik).mem (fun p:(Pr)×Unit=>N8 f p.1) (fun p:(Pr)×Unit=>DD f p.1) (fun p:(Pr)×Unit=>Co f p.1)
theorem pg (f:Nat):∀p,(fun p:(Pr)×Unit=>N8 f p.1) p→BA ((Ik).mem p).length ((fun p:(Pr)×Unit=>Co f p.1) p)=true:=by intro p _;rfl
theorem pi (f:Nat):∀p,(fun p:(Pr)×Unit=>N8 f p.1) p→AQ ((fun p:(Pr)×Unit=>Co f p.1) p).length ((fun p:(Pr)×Unit=>DD f p.1) p)=true:=by intro p _;exact wV _ _
theorem pj (f:Nat):∀p,(fun p:(Pr)×Unit=>N8 f p.1) p→∀q,some q∈(fun p:(Pr)×Unit=>Co f p.1) p→∀r∈q.2,∀c∈r,c.names=[]:=by intro p _;exact DY _
noncomputable def U6 {X:Ctx} {w0:World} (f:Nat) (h:Ku f):Sy.Spec Tryz.prog X w0:=Be 70 Tryz.call70 (Ik) (fun p:(Pr)×Unit=>N8 f p.1) (fun p:(Pr)×Unit=>DD f p.1) (fun p:(Pr)×Unit=>Co f p.1) (pg f) (pi f) (pj f) h
theorem N9 {t:List UInt8} {p q:Pr} (h:okP q) (hi:p.i≤q.i) (h0:(AD t q).e=0):p.i+1≤(AD t q).i:=by rw[Sd h h0];omega
theorem pk {st:Pr→R Sm} (hu:∀p,okP p→Nx p (st p).2) (no:Int) {p:Pr} (h:okP p) (h0:(Cy st no p).2.e=0):p.i+1≤(Cy st no p).2.i:=by
 have hB:∀{t:List UInt8},isT t p=true→p.i+1≤(ifB (blkW st) p).2.i:=by
  intro t hi
  have h1:=AV h hi
  have h2:=Ae (t:=[40]) h1.ok
  have h3:=h2.trans (PL h2.ok)
  have h4:=h3.trans (Ae (t:=[41]) h3.ok)
  have h5:=(h4.trans (Kw hu h4.ok)).i
  rw[DF h (Aa hi).2]at h5
  exact h5
 have hn:=DO h
 revert h0
 unfold Cy
 split
 ·rename_i hi
  intro h0
  have h1:=AV h hi
  have h2:=h1.trans (CU h1.ok)
  exact N9 h2.ok h2.i h0
 split
 ·rename_i hi
  intro h0
  have h1:=Sc h hi
  have h2:=h1.trans (Ae (t:=[41]) h1.ok)
  exact N9 h2.ok h2.i h0
 split
 ·rename_i hi;exact fun _=>hB hi
 split
 ·rename_i hi
  split
  ·rename_i hi2
   intro _
   have h1:=PS hu h hi
   have h2:=AV h1.ok hi2
   have h3:=(h2.trans (Kw hu h2.ok)).i
   exact Int.le_trans (hB hi) h3
  ·exact fun _=>hB hi
 split
 ·rename_i hi
  intro h0
  have h1:=AV h hi
  have h2:=h1.trans (DO h1.ok)
  have h3:=h2.trans (Ae (t:=[61]) h2.ok)
  have h4:=h3.trans (CU h3.ok)
  exact N9 h4.ok h4.i h0
 split
 ·rename_i hi
  intro h0
  have h1:=hn.trans (AV hn.ok hi)
  have h2:=h1.trans (Qd h1.ok)
  exact N9 h2.ok h2.i h0
 split
 ·rename_i hi
  intro h0
  have h1:=hn.trans (AV hn.ok hi)
  have h2:=h1.trans (CU h1.ok)
  have h3:=h2.trans (Ae (t:=[93]) h2.ok)
  have h4:=h3.trans (Ae (t:=[61]) h3.ok)
  have h5:=h4.trans (CU h4.ok)
  exact N9 h5.ok h5.i h0
 ·intro h0
  have h1:=hn.trans (Ae (t:=[61]) hn.ok)
  have h2:=h1.trans (X3 h1.ok)
  exact N9 h2.ok h2.i h0
theorem jn {c:Int} (hc:c≠0) (p:Pr):(BG c p).e≠0:=by
 unfold BG
 split
 ·exact hc
 ·rename_i h;simpa using h
theorem fI (f:Nat) {p:Pr} (h:okP p) (h0:(AW (f+1) p).2.e=0):p.i+1≤(AW (f+1) p).2.i:=by
 revert h0
 simp only[AW]
 split
 ·exact fun h0=>absurd h0 (jn (by decide) p)
 ·exact fun h0=>pk (Jv f) _ (Sb h).ok h0
abbrev LR (f:Nat) (p:Pr):Prop:=okP p∧dpU f p
abbrev Gn (f:Nat) (p:Pr):SV:=.one (smS (stmtsW (AW f) p).1)
abbrev Ef (f:Nat) (p:Pr):List (Option MV):=[some (zPr,[(stmtsW (AW f) p).2.c])]
noncomputable abbrev Gp:ArgM ((Pr)×Unit):=(amP (mPr) am0)
abbrev Wf (f:Nat):Prop:=BD Tryz.prog 37 ((Gp).args 0) (Gp).mem (fun p:(Pr)×Unit=>LR f p.1) (fun p:(Pr)×Unit=>Gn f p.1) (fun p:(Pr)×Unit=>Ef f p.1)
theorem jo (f:Nat):∀p,(fun p:(Pr)×Unit=>LR f p.1) p→BA ((Gp).mem p).length ((fun p:(Pr)×Unit=>Ef f p.1) p)=true:=by intro p _;rfl
theorem jp (f:Nat):∀p,(fun p:(Pr)×Unit=>LR f p.1) p→AQ ((fun p:(Pr)×Unit=>Ef f p.1) p).length ((fun p:(Pr)×Unit=>Gn f p.1) p)=true:=by intro p _;first|rfl|exact AK _ _|exact AL _ _|(simp[AQ,Bn,AK,AL];done)
theorem jq (f:Nat):∀p,(fun p:(Pr)×Unit=>LR f p.1) p→∀q,some q∈(fun p:(Pr)×Unit=>Ef f p.1) p→∀r∈q.2,∀c∈r,c.names=[]:=by intro p _;exact DY _
noncomputable def O3 {X:Ctx} {w0:World} (f:Nat) (h:Wf f):Sy.Spec Tryz.prog X w0:=Be 37 Tryz.call37 (Gp) (fun p:(Pr)×Unit=>LR f p.1) (fun p:(Pr)×Unit=>Gn f p.1) (fun p:(Pr)×Unit=>Ef f p.1) (jo f) (jp f) (jq f) h
attribute [local go_sem] Pr.c Tok.r Ke KQ Ju KP KO Ji ptR KN Jt B4 Kb HP U6 O3 Jq NS Av Bo BV Au BW Ap RL BE GG D1 zSc zTk
theorem ZI (f:Nat) (hu:Ku f):Wf f:=by
 rintro ⟨p,_u⟩ w M I lab fz xs hc hA hl hx
 refine AJ Tryz.func37 rfl _ w M I lab fz [Ap,Av,(U6 f hu)] [] _ _ _ xs hA hl hx (fun v hv k hk=>by have:=(Gp).an 0 ⟨p,_u⟩ v hv k hk;omega) (jN rfl) (jN rfl) ?_
 clear hx hl hA xs
 simp only[Tryz.f37]
 obtain⟨hc1,hc2⟩:=hc
 dsimp only at hc1 hc2
 obtain⟨f',rfl⟩:∃f',f=f'+1:=by
  cases f with
  |zero=>
   have h3:p.deep≤40:=hc1.2.2.2.2.1
   have h4:41≤p.deep+((0:Nat):Int):=hc2
   exact absurd h4 (by simp;omega)
  |succ f=>exact⟨f,rfl⟩
 simp only[↓eB,seval,go_sem]
 refine AH (Y:=Nat×List Sm×Pr) (fun y=>okP y.2.2∧dpU (f'+1) y.2.2∧(y.2.2.e=0→(y.2.2.l.length:Int)+1≤y.2.2.i+(y.1:Int))∧(y.2.2.e=0→(y.2.1.length:Int)≤y.2.2.i)∧stmtsL (AW (f'+1)) y.1 y.2.1 y.2.2=stmtsW (AW (f'+1)) p)
  (fun y=>⟨[(0,true,.one (.p 0 0 0)),(3,true,.one (.s 1000))],[(0,.vec 0 zPr [y.2.2.c]),(1000,.vec 0 zSc (y.2.1.map Sm.c))]⟩)
  (fun y=>y.1) (p.l.length+1,[],p) ⟨hc1,hc2,fun _=>by have:=hc1.1;simp only;omega,fun _=>by simpa using hc1.1,rfl⟩ ?_ ?_
 ·refine A4 [.nil 3 1000 zSc] ?_;simp only[↓eB,seval,go_sem]
 ·rintro ⟨k,l,q⟩ ⟨h1,h2,h3,h4,h5⟩
  refine Ab [Ap,Av,U6 (f'+1) hu] [] _ _ _ ?_
  dsimp only at h1 h2 h3 h4 h5
  cases he:(q.e==0) with
  |false=>
   have hr2:stmtsW (AW (f'+1)) p=(l,q):=by rw[← h5];cases k<;>simp[stmtsL,he]
   simp only[↓eB,seval,go_sem,he]
   try simp only[A1,A2]
   repeat' first|exact ck|with_reducible apply And.intro|intro _
   all_goals first|exact h1|(rename_i h;first|exact oI h|exact nah h)|(rename_i _ h _ g;exact sL h g)|decide|omega|(refine A0 [.fz 1000] ?_;simp only[↓eB,seval,go_sem,bne,Gn,Ef,hr2,arS,smS,zSm,EH.ds,EH.fz])
  |true=>
   have he0:q.e=0:=by simpa using he
   obtain⟨k',rfl⟩:∃k',k=k'+1:=⟨k-1,by have:=h3 he0;have:=h1.2.1;omega⟩
   simp only[stmtsL,he,if_true]at h5
   have hs:=Jv (f'+1) q h1
   have hI:=h1.i
   have hle:l.length≤4096:=by have:=h4 he0;have:=h1.2.1;have:=h1.2.2.1;omega
   cases it:isT [125] q with
   |true=>
    rw[if_pos it]at h5
    simp only[↓eB,seval,go_sem,he,it,adv]
    try simp only[A1,A2]
    repeat' first|exact ck|with_reducible apply And.intro|intro _
    all_goals first|exact h1|exact hI|(rename_i h;first|exact oI h|exact nah h)|(rename_i _ h _ g;exact sL h g)|decide|omega|(refine A0 [.fz 1000] ?_;simp only[↓eB,seval,go_sem,bne,Gn,Ef,← h5,arS,adv,smS,zSm,EH.ds,EH.fz])
   |false=>
    rw[if_neg (by rw[it];decide)]at h5
    cases ib:decide ((q.l.length:Int)≤q.i) with
    |true=>
     rw[if_pos ib]at h5
     simp only[↓eB,seval,go_sem,he,it,ib]
     try simp only[A1,A2]
     repeat' first|exact ck|with_reducible apply And.intro|intro _
     all_goals first|exact h1|exact hI|(rename_i h;first|exact oI h|exact nah h)|(rename_i _ h _ g;exact sL h g)|decide|omega|(refine A0 [] ?_;simp only[↓eB,seval,go_sem,bne,Gn,Ef,← h5,arS,smS])
    |false=>
     rw[if_neg (by rw[ib];decide)]at h5
     simp only[↓eB,seval,go_sem,he,it,ib,Sm.c,EH.fn]
     try simp only[A1,A2]
     repeat' first|exact ck|with_reducible apply And.intro|intro _
     all_goals try first|exact h1|exact hI|exact h2|(rename_i h;first|exact oI h|exact nah h)|(rename_i _ h _ g;exact sL h g)|decide|omega
     refine⟨(k',l++[(AW (f'+1) q).1],(AW (f'+1) q).2),⟨hs.ok,by show dpU _ _;unfold dpU;rw[hs.d];exact h2,?_,?_,h5⟩,Nat.lt_succ_self _,
      BP (t:=⟨[(0,true,.one (.p 0 0 0)),(3,true,.one (.s 30))],[(0,.vec 0 zPr [(AW (f'+1) q).2.c]),(30,.vec 0 zSc ((l++[(AW (f'+1) q).1]).map Sm.c))]⟩) (A4 [] ?_) (A4 [.mv 30 1000] ?_)⟩
     ·exact fun hw0=>by have h6:=h3 he0;have e:=fI f' h1 hw0;dsimp only;rw[hs.l];omega
     ·exact fun hw0=>by have h6:=h4 he0;have e:=fI f' h1 hw0;simp only[jL3];omega
     ·simp only[↓eB,seval,go_sem,EH.fn,List.flatMap_append,List.map_append,Sm.c]
     ·simp only[↓eB,seval,go_sem,EH.fn,EH.mv]
abbrev LS (f:Nat) (p:Pr):Prop:=okP p∧dpU (f+1) p
abbrev Gq (f:Nat) (p:Pr):SV:=.one (smS (blkW (AW f) p).1)
abbrev Eg (f:Nat) (p:Pr):List (Option MV):=[some (zPr,[(blkW (AW f) p).2.c])]
noncomputable abbrev Gr:ArgM ((Pr)×Unit):=(amP (mPr) am0)
abbrev Wg (f:Nat):Prop:=BD Tryz.prog 97 ((Gr).args 0) (Gr).mem (fun p:(Pr)×Unit=>LS f p.1) (fun p:(Pr)×Unit=>Gq f p.1) (fun p:(Pr)×Unit=>Eg f p.1)
theorem jr (f:Nat):∀p,(fun p:(Pr)×Unit=>LS f p.1) p→BA ((Gr).mem p).length ((fun p:(Pr)×Unit=>Eg f p.1) p)=true:=by intro p _;rfl
theorem js (f:Nat):∀p,(fun p:(Pr)×Unit=>LS f p.1) p→AQ ((fun p:(Pr)×Unit=>Eg f p.1) p).length ((fun p:(Pr)×Unit=>Gq f p.1) p)=true:=by intro p _;first|rfl|exact AK _ _|exact AL _ _|(simp[AQ,Bn,AK,AL];done)
theorem jt (f:Nat):∀p,(fun p:(Pr)×Unit=>LS f p.1) p→∀q,some q∈(fun p:(Pr)×Unit=>Eg f p.1) p→∀r∈q.2,∀c∈r,c.names=[]:=by intro p _;exact DY _
noncomputable def Wh {X:Ctx} {w0:World} (f:Nat) (h:Wg f):Sy.Spec Tryz.prog X w0:=Be 97 Tryz.call97 (Gr) (fun p:(Pr)×Unit=>LS f p.1) (fun p:(Pr)×Unit=>Gq f p.1) (fun p:(Pr)×Unit=>Eg f p.1) (jr f) (js f) (jt f) h
theorem pm (f:Nat) (hu:Ku f):Wg f:=by
 rintro ⟨p,_u⟩ w M I lab fz xs hc hA hl hx
 refine AJ Tryz.func97 rfl _ w M I lab fz [Bo,Av,BW,(O3 f (ZI f hu))] [] _ _ _ xs hA hl hx (fun v hv k hk=>by have:=(Gr).an 0 ⟨p,_u⟩ v hv k hk;omega) (jN rfl) (jN rfl) ?_
 clear hx hl hA xs
 simp only[Tryz.f97]
 obtain⟨hc1,hc2⟩:=hc
 dsimp only at hc1 hc2
 have hI:=hc1.i
 cases i0:isT [123] p with
 |false=>
  have hr:blkW (AW f) p=([],BG 51 p):=by simp[blkW,i0]
  simp only[↓eB,seval,go_sem,i0]
  try simp only[A1,A2]
  repeat' first|exact ck|with_reducible apply And.intro|intro _
  all_goals first|exact hI|exact hc1|(rename_i h;first|exact oI h|exact nah h)|(rename_i _ h _ g;exact sL h g)|decide|omega|(refine A0 [] ?_;simp only[↓eB,seval,go_sem,bne,Gq,Eg,hr,arS,smS])
 |true=>
 cases ob:C7 p with
 |false=>
  have hr:blkW (AW f) p=([],AG p):=by simp[blkW,i0,ob]
  simp only[↓eB,seval,go_sem,i0,ob]
  try simp only[A1,A2]
  repeat' first|exact ck|with_reducible apply And.intro|intro _
  all_goals first|exact hI|exact hc1|(rename_i h;first|exact oI h|exact nah h)|(rename_i _ h _ g;exact sL h g)|decide|omega|(refine A0 [] ?_;simp only[↓eB,seval,go_sem,bne,Gq,Eg,hr,arS,smS])
 |true=>
  have hr:blkW (AW f) p=((stmtsW (AW f) (adv (AG p))).1,shut (stmtsW (AW f) (adv (AG p))).2):=by simp[blkW,i0,ob]
  have ha:=DH hc1 ob (Aa i0).2
  have hd:=X1 hc1 ob hc2
  simp only[↓eB,seval,go_sem,i0,ob]
  try simp only[A1,A2]
  repeat' first|exact ck|with_reducible apply And.intro|intro _
  all_goals first|exact hI|exact hc1|exact ha.ok|exact hd|(rename_i h;first|exact oI h|exact nah h)|(rename_i _ h _ g;exact sL h g)|decide|omega|(refine A0 [] ?_;simp only[↓eB,seval,go_sem,bne,Gq,Eg,hr,arS,smS,shut,adv])
end Go.Proofs.YtbiepiggmagfcaaGreatDoor
namespace Go.Proofs.YtbiepiggmagfcaaGreatDoor
open Go Go.Sy Go.RowKit
theorem WB {f:Nat} {p q:Pr} (h:Nx p q) (hd:dpU f p):dpU f q:=by unfold dpU;rw[h.d];exact hd
attribute [local go_sem] Pr.c Tok.r adv Ke KQ Ju KP KO A2m nH nG Ji ptR KN Jt B4 Kb MX Wh HP Jq NS Av Bo BV Au BW Ap RL BE GG D1 zSc zTk
theorem pn (f:Nat) (hu:Ku f):Ku (f+1):=by
 rintro ⟨p,_u⟩ w M I lab fz xs hc hA hl hx
 refine AJ Tryz.func70 rfl _ w M I lab fz [Bo,Au,Av,BE,BV,Ap,NS,RL,UF,A2k,(Wh f (pm f hu))] [] _ _ _ xs hA hl hx (fun v hv k hk=>by have:=(Ik).an 0 ⟨p,_u⟩ v hv k hk;omega) (jN rfl) (jN rfl) ?_
 clear hx hl hA xs
 simp only[Tryz.f70]
 obtain⟨hc1,hc2⟩:=hc
 dsimp only at hc1 hc2
 have hI:=hc1.i
 have hq:=Sb hc1
 have hqI:=hq.ok.i
 have hqd:=WB hq hc2
 cases hk:(X2 p&&decide (200≤p.n)) with
 |true=>
  have hr:AW (f+1) p=(sm0 p.n,BG 53 p):=by simp only[AW];rw[if_pos hk]
  simp only[X2]at hk
  simp only[↓eB,seval,go_sem,↓BI,↓Bj,↓Bl,↓C4,hk]
  try simp only[A1,A2]
  repeat' first|exact ck|with_reducible apply And.intro|intro _
  all_goals first|exact hI|exact hc1|(rename_i h;first|exact oI h|exact nah h)|(rename_i _ h _ g;exact sL h g)|decide|omega|(refine A0 [] ?_;simp only[↓eB,seval,go_sem,bne,DD,Co,hr,arS,smS,↓BI,↓Bj,↓Bl,↓C4,sm0,Sm.c,Sm.k,Sm.x,Sm.y,Sm.e,Sm.f,Sm.cd,Sm.ar,Sm.th,Sm.el,Sm.no,B3,CG,GW,ifB,ifC])
 |false=>
 have hr0:AW (f+1) p=Cy (AW f) p.n (nxt p):=by simp only[AW];rw[if_neg (by rw[hk];decide)]
 simp only[X2]at hk
 cases i1:isT UG (nxt p) with
 |true=>
  have j1:=i1
  simp only[nxt]at j1
  have hr:AW (f+1) p=(.mk 9 [] [] (exS (adv (nxt p))).1 .nil .nil [] [] [] p.n,AD [59] (exS (adv (nxt p))).2):=by rw[hr0];simp[Cy,i1]
  have ha:=AV hq.ok i1
  have hs:=CU ha.ok
  have hd:=Ij ha.ok
  simp only[↓eB,seval,go_sem,↓BI,↓Bj,↓Bl,↓C4,hk,j1]
  try simp only[A1,A2]
  repeat' first|exact ck|with_reducible apply And.intro|intro _
  all_goals first|exact hI|exact hc1|exact hq.ok|exact hqI|exact hqd|exact ha.ok|exact hd|exact hs.ok|(rename_i h;first|exact oI h|exact nah h)|(rename_i _ h _ g;exact sL h g)|decide|omega|(refine A0 [] ?_;simp only[↓eB,seval,go_sem,bne,DD,Co,hr,arS,smS,↓BI,↓Bj,↓Bl,↓C4,nxt,Sm.c,Sm.k,Sm.x,Sm.y,Sm.e,Sm.f,Sm.cd,Sm.ar,Sm.th,Sm.el,Sm.no,B3,CG,GW,ifB,ifC])
 |false=>
 have j1:=i1
 simp only[nxt]at j1
 cases i2:isT PQ (nxt p) with
 |true=>
  have j2:=i2
  simp only[nxt]at j2
  have hr:AW (f+1) p=(.mk 12 [] [] .nil .nil (ifC (nxt p)).1 [] [] [] p.n,AD [59] (AD [41] (ifC (nxt p)).2)):=by rw[hr0];simp[Cy,i1,i2]
  have ha:=AV hq.ok i2
  have hw:=Ae (t:=[40]) ha.ok
  have hd:=Ij hw.ok
  have hcd:=PL hw.ok
  have hw2:=Ae (t:=[41]) hcd.ok
  simp only[↓eB,seval,go_sem,↓BI,↓Bj,↓Bl,↓C4,hk,j1,j2]
  try simp only[A1,A2]
  repeat' first|exact ck|with_reducible apply And.intro|intro _
  all_goals first|exact hI|exact hc1|exact hq.ok|exact hqI|exact hqd|exact ha.ok|exact hd|exact hw.ok|exact hcd.ok|exact hw2.ok|(rename_i h;first|exact oI h|exact nah h)|(rename_i _ h _ g;exact sL h g)|decide|omega|(refine A0 [] ?_;simp only[↓eB,seval,go_sem,bne,DD,Co,hr,arS,smS,↓BI,↓Bj,↓Bl,↓C4,nxt,Sm.c,Sm.k,Sm.x,Sm.y,Sm.e,Sm.f,Sm.cd,Sm.ar,Sm.th,Sm.el,Sm.no,B3,CG,GW,ifB,ifC])
 |false=>
 have j2:=i2
 simp only[nxt]at j2
 cases i3:isT PR (nxt p) with
 |true=>
  have j3:=i3
  simp only[nxt]at j3
  have hr:AW (f+1) p=(.mk 11 [] [] .nil .nil (ifC (nxt p)).1 [] (ifB (blkW (AW f)) (nxt p)).1 [] p.n,(ifB (blkW (AW f)) (nxt p)).2):=by rw[hr0];simp[Cy,i1,i2,i3]
  have ha:=AV hq.ok i3
  have hw:=Ae (t:=[40]) ha.ok
  have hd:=Ij hw.ok
  have hcd:=PL hw.ok
  have hw2:=Ae (t:=[41]) hcd.ok
  have hdd:=WB (((ha.trans hw).trans hcd).trans hw2) hqd
  simp only[↓eB,seval,go_sem,↓BI,↓Bj,↓Bl,↓C4,hk,j1,j2,j3]
  try simp only[A1,A2]
  repeat' first|exact ck|with_reducible apply And.intro|intro _
  all_goals first|exact hI|exact hc1|exact hq.ok|exact hqI|exact hqd|exact ha.ok|exact hd|exact hw.ok|exact hcd.ok|exact hw2.ok|exact hdd|(rename_i h;first|exact oI h|exact nah h)|(rename_i _ h _ g;exact sL h g)|decide|omega|(refine A0 [] ?_;simp only[↓eB,seval,go_sem,bne,DD,Co,hr,arS,smS,↓BI,↓Bj,↓Bl,↓C4,nxt,Sm.c,Sm.k,Sm.x,Sm.y,Sm.e,Sm.f,Sm.cd,Sm.ar,Sm.th,Sm.el,Sm.no,B3,CG,GW,ifB,ifC])
 |false=>
 have j3:=i3
 simp only[nxt]at j3
 cases i4:isT tIf (nxt p) with
 |true=>
  have j4:=i4
  simp only[nxt]at j4
  have ha:=AV hq.ok i4
  have hw:=Ae (t:=[40]) ha.ok
  have hd:=Ij hw.ok
  have hcd:=PL hw.ok
  have hw2:=Ae (t:=[41]) hcd.ok
  have hnn:=((ha.trans hw).trans hcd).trans hw2
  have hdd:=WB hnn hqd
  have hb:=Kw (Jv f) hw2.ok
  cases i5:isT FF (ifB (blkW (AW f)) (nxt p)).2 with
  |true=>
   have hr:AW (f+1) p=(.mk 10 [] [] .nil .nil (ifC (nxt p)).1 [] (ifB (blkW (AW f)) (nxt p)).1 (blkW (AW f) (adv (ifB (blkW (AW f)) (nxt p)).2)).1 p.n,(blkW (AW f) (adv (ifB (blkW (AW f)) (nxt p)).2)).2):=by rw[hr0];simp[Cy,i1,i2,i3,i4,i5]
   have hb2:=AV hb.ok i5
   have hde:=WB ((hnn.trans hb).trans hb2) hqd
   have j5:=i5
   simp only[nxt,ifB,ifC,adv]at j5
   simp only[↓eB,seval,go_sem,↓BI,↓Bj,↓Bl,↓C4,hk,j1,j2,j3,j4,j5]
   try simp only[A1,A2]
   repeat' first|exact ck|with_reducible apply And.intro|intro _
   all_goals first|exact hI|exact hc1|exact hq.ok|exact hqI|exact hqd|exact ha.ok|exact hd|exact hw.ok|exact hcd.ok|exact hw2.ok|exact hdd|exact hb.ok|exact hb2.ok|exact hde|(rename_i h;first|exact oI h|exact nah h)|(rename_i _ h _ g;exact sL h g)|decide|omega|(refine A0 [] ?_;simp only[↓eB,seval,go_sem,bne,DD,Co,hr,arS,smS,↓BI,↓Bj,↓Bl,↓C4,nxt,Sm.c,Sm.k,Sm.x,Sm.y,Sm.e,Sm.f,Sm.cd,Sm.ar,Sm.th,Sm.el,Sm.no,B3,CG,GW,ifB,ifC])
  |false=>
   have hr:AW (f+1) p=(.mk 10 [] [] .nil .nil (ifC (nxt p)).1 [] (ifB (blkW (AW f)) (nxt p)).1 [] p.n,(ifB (blkW (AW f)) (nxt p)).2):=by rw[hr0];simp[Cy,i1,i2,i3,i4,i5]
   have j5:=i5
   simp only[nxt,ifB,ifC,adv]at j5
   simp only[↓eB,seval,go_sem,↓BI,↓Bj,↓Bl,↓C4,hk,j1,j2,j3,j4,j5]
   try simp only[A1,A2]
   repeat' first|exact ck|with_reducible apply And.intro|intro _
   all_goals first|exact hI|exact hc1|exact hq.ok|exact hqI|exact hqd|exact ha.ok|exact hd|exact hw.ok|exact hcd.ok|exact hw2.ok|exact hdd|exact hb.ok|(rename_i h;first|exact oI h|exact nah h)|(rename_i _ h _ g;exact sL h g)|decide|omega|(refine A0 [] ?_;simp only[↓eB,seval,go_sem,bne,DD,Co,hr,arS,smS,↓BI,↓Bj,↓Bl,↓C4,nxt,Sm.c,Sm.k,Sm.x,Sm.y,Sm.e,Sm.f,Sm.cd,Sm.ar,Sm.th,Sm.el,Sm.no,B3,CG,GW,ifB,ifC])
 |false=>
 have j4:=i4
 simp only[nxt]at j4
 cases i6:isT [42] (nxt p) with
 |true=>
  have j6:=i6
  simp only[nxt]at j6
  have hr:AW (f+1) p=(.mk 5 (Bi (adv (nxt p))) [] (exS (AD [61] (Ai (adv (nxt p))))).1 .nil .nil [] [] [] p.n,AD [59] (exS (AD [61] (Ai (adv (nxt p))))).2):=by rw[hr0];simp[Cy,i1,i2,i3,i4,i6]
  have ha:=AV hq.ok i6
  have hn:=DO ha.ok
  have hw:=Ae (t:=[61]) hn.ok
  have hd:=Ij hw.ok
  have hs:=CU hw.ok
  simp only[↓eB,seval,go_sem,↓BI,↓Bj,↓Bl,↓C4,hk,j1,j2,j3,j4,j6]
  try simp only[A1,A2]
  repeat' first|exact ck|with_reducible apply And.intro|intro _
  all_goals first|exact hI|exact hc1|exact hq.ok|exact hqI|exact hqd|exact ha.ok|exact hn.ok|exact hd|exact hw.ok|exact hs.ok|(rename_i h;first|exact oI h|exact nah h)|(rename_i _ h _ g;exact sL h g)|decide|omega|(refine A0 [] ?_;simp only[↓eB,seval,go_sem,bne,DD,Co,hr,arS,smS,↓BI,↓Bj,↓Bl,↓C4,nxt,Sm.c,Sm.k,Sm.x,Sm.y,Sm.e,Sm.f,Sm.cd,Sm.ar,Sm.th,Sm.el,Sm.no,B3,CG,GW,ifB,ifC])
 |false=>
 have j6:=i6
 simp only[nxt]at j6
 have hn:=DO hq.ok
 cases i7:isT [40] (Ai (nxt p)) with
 |true=>
  have j7:=i7
  simp only[nxt]at j7
  have hr:AW (f+1) p=(.mk 8 [] (Bi (nxt p)) .nil .nil .nil (Cw (adv (Ai (nxt p)))).1 [] [] p.n,AD [59] (Cw (adv (Ai (nxt p)))).2):=by rw[hr0];simp[Cy,i1,i2,i3,i4,i6,i7]
  have ha:=AV hn.ok i7
  have hs:=Qd ha.ok
  simp only[↓eB,seval,go_sem,↓BI,↓Bj,↓Bl,↓C4,hk,j1,j2,j3,j4,j6,j7]
  try simp only[A1,A2]
  repeat' first|exact ck|with_reducible apply And.intro|intro _
  all_goals first|exact hI|exact hc1|exact hq.ok|exact hqI|exact hqd|exact ha.ok|exact hn.ok|exact hs.ok|(rename_i h;first|exact oI h|exact nah h)|(rename_i _ h _ g;exact sL h g)|decide|omega|(refine A0 [] ?_;simp only[↓eB,seval,go_sem,bne,DD,Co,hr,arS,smS,↓BI,↓Bj,↓Bl,↓C4,nxt,Sm.c,Sm.k,Sm.x,Sm.y,Sm.e,Sm.f,Sm.cd,Sm.ar,Sm.th,Sm.el,Sm.no,B3,CG,GW,ifB,ifC])
 |false=>
 have j7:=i7
 simp only[nxt]at j7
 cases i8:isT [91] (Ai (nxt p)) with
 |true=>
  have j8:=i8
  simp only[nxt]at j8
  have hr:AW (f+1) p=(.mk 7 [] (Bi (nxt p)) (exS (adv (Ai (nxt p)))).1 (exS (AD [61] (AD [93] (exS (adv (Ai (nxt p)))).2))).1 .nil [] [] [] p.n,AD [59] (exS (AD [61] (AD [93] (exS (adv (Ai (nxt p)))).2))).2):=by rw[hr0];simp[Cy,i1,i2,i3,i4,i6,i7,i8]
  have ha:=AV hn.ok i8
  have hd:=Ij ha.ok
  have hs:=CU ha.ok
  have hw:=Ae (t:=[93]) hs.ok
  have hw2:=Ae (t:=[61]) hw.ok
  have hd2:=Ij hw2.ok
  have hs2:=CU hw2.ok
  simp only[↓eB,seval,go_sem,↓BI,↓Bj,↓Bl,↓C4,hk,j1,j2,j3,j4,j6,j7,j8]
  try simp only[A1,A2]
  repeat' first|exact ck|with_reducible apply And.intro|intro _
  all_goals first|exact hI|exact hc1|exact hq.ok|exact hqI|exact hqd|exact ha.ok|exact hn.ok|exact hd|exact hs.ok|exact hw.ok|exact hw2.ok|exact hd2|exact hs2.ok|(rename_i h;first|exact oI h|exact nah h)|(rename_i _ h _ g;exact sL h g)|decide|omega|(refine A0 [] ?_;simp only[↓eB,seval,go_sem,bne,DD,Co,hr,arS,smS,↓BI,↓Bj,↓Bl,↓C4,nxt,Sm.c,Sm.k,Sm.x,Sm.y,Sm.e,Sm.f,Sm.cd,Sm.ar,Sm.th,Sm.el,Sm.no,B3,CG,GW,ifB,ifC])
 |false=>
 have j8:=i8
 simp only[nxt]at j8
 have hr:AW (f+1) p=(.mk (BF (AD [61] (Ai (nxt p)))).1.k (Bi (nxt p)) (BF (AD [61] (Ai (nxt p)))).1.y (BF (AD [61] (Ai (nxt p)))).1.e .nil .nil ((BF (AD [61] (Ai (nxt p)))).1.a.getD []) [] [] p.n,AD [59] (BF (AD [61] (Ai (nxt p)))).2):=by rw[hr0];simp[Cy,i1,i2,i3,i4,i6,i7,i8]
 have hw:=Ae (t:=[61]) hn.ok
 have hv:=X3 hw.ok
 simp only[↓eB,seval,go_sem,↓BI,↓Bj,↓Bl,↓C4,hk,j1,j2,j3,j4,j6,j7,j8]
 try simp only[A1,A2]
 repeat' first|exact ck|with_reducible apply And.intro|intro _
 all_goals first|exact hI|exact hc1|exact hq.ok|exact hqI|exact hqd|exact hn.ok|exact hw.ok|exact hv.ok|(rename_i h;first|exact oI h|exact nah h)|(rename_i _ h _ g;exact sL h g)|decide|omega|(refine A0 [] ?_;simp only[↓eB,seval,go_sem,bne,DD,Co,hr,arS,smS,↓BI,↓Bj,↓Bl,↓C4,nxt,Sm.c,Sm.k,Sm.x,Sm.y,Sm.e,Sm.f,Sm.cd,Sm.ar,Sm.th,Sm.el,Sm.no,B3,CG,GW,ifB,ifC])
theorem fJ:∀f:Nat,Ku f
 |0=>by
  rintro ⟨p,_u⟩ w M I lab fz xs hc hA hl hx
  obtain⟨h1,h2⟩:=hc
  have h3:p.deep≤40:=h1.2.2.2.2.1
  have h4:41≤p.deep+((0:Nat):Int):=h2
  exact absurd h4 (by simp;omega)
 |f+1=>pn f (fJ f)
noncomputable abbrev FD {X:Ctx} {w0:World}:Sy.Spec Tryz.prog X w0:=O3 41 (ZI 41 (fJ 41))
end Go.Proofs.YtbiepiggmagfcaaGreatDoor
