/- Statements, blocks, walked. No conditions but those in each statement. -/
import Derived.Test.YtjnnmindcbgjhaaSo
set_option linter.unusedVariables false
set_option linter.unusedSimpArgs false
set_option maxRecDepth 20000
set_option maxHeartbeats 8000000
namespace Go.Proofs.Ytjnnmindcbgjhaa
open Go Go.Sy Go.RowKit
abbrev Ox (f:Nat) (p:Pr):Prop:=okP p∧dpU f p
abbrev F0 (f:Nat) (p:Pr):SV:=.agg (C9 f p).1.c
abbrev EQ (f:Nat) (p:Pr):List (Option MV):=[some (zPr,[(C9 f p).2.c])]
noncomputable abbrev L0:ArgM ((Pr)×Unit):=(amP (mPr) am0)
abbrev MU (f:Nat):Prop:=Bs Try.prog 77 ((L0).args 0) (L0).mem (fun p:(Pr)×Unit=>Ox f p.1) (fun p:(Pr)×Unit=>F0 f p.1) (fun p:(Pr)×Unit=>EQ f p.1)
theorem lf (f:Nat):∀p,(fun p:(Pr)×Unit=>Ox f p.1) p→Co ((L0).mem p).length ((fun p:(Pr)×Unit=>EQ f p.1) p)=true:=by intro p _;rfl
theorem lg (f:Nat):∀p,(fun p:(Pr)×Unit=>Ox f p.1) p→Au ((fun p:(Pr)×Unit=>EQ f p.1) p).length ((fun p:(Pr)×Unit=>F0 f p.1) p)=true:=by intro p _;exact vL _ _
theorem lh (f:Nat):∀p,(fun p:(Pr)×Unit=>Ox f p.1) p→∀q,some q∈(fun p:(Pr)×Unit=>EQ f p.1) p→∀r∈q.2,∀c∈r,c.names=[]:=by intro p _;exact Fg _
noncomputable def K5 {X:Ctx} {w0:World} (f:Nat) (h:MU f):Sy.Spec Try.prog X w0:=Ca 77 Try.call77 (L0) (fun p:(Pr)×Unit=>Ox f p.1) (fun p:(Pr)×Unit=>F0 f p.1) (fun p:(Pr)×Unit=>EQ f p.1) (lf f) (lg f) (lh f) h
abbrev N7 (f:Nat) (p:Pr):Prop:=okP p∧dpU f p
abbrev Jh (f:Nat) (p:Pr):SV:=.one (smS (IK (C9 f) p).1)
abbrev HE (f:Nat) (p:Pr):List (Option MV):=[some (zPr,[(IK (C9 f) p).2.c])]
noncomputable abbrev Ji:ArgM ((Pr)×Unit):=(amP (mPr) am0)
abbrev Wp (f:Nat):Prop:=Bs Try.prog 63 ((Ji).args 0) (Ji).mem (fun p:(Pr)×Unit=>N7 f p.1) (fun p:(Pr)×Unit=>Jh f p.1) (fun p:(Pr)×Unit=>HE f p.1)
theorem fZ (f:Nat):∀p,(fun p:(Pr)×Unit=>N7 f p.1) p→Co ((Ji).mem p).length ((fun p:(Pr)×Unit=>HE f p.1) p)=true:=by intro p _;rfl
theorem fb (f:Nat):∀p,(fun p:(Pr)×Unit=>N7 f p.1) p→Au ((fun p:(Pr)×Unit=>HE f p.1) p).length ((fun p:(Pr)×Unit=>Jh f p.1) p)=true:=by intro p _;first|rfl|exact AO _ _|exact AP _ _|(simp[Au,C0,AO,AP];done)
theorem fc (f:Nat):∀p,(fun p:(Pr)×Unit=>N7 f p.1) p→∀q,some q∈(fun p:(Pr)×Unit=>HE f p.1) p→∀r∈q.2,∀c∈r,c.names=[]:=by intro p _;exact Fg _
noncomputable def Pt {X:Ctx} {w0:World} (f:Nat) (h:Wp f):Sy.Spec Try.prog X w0:=Ca 63 Try.call63 (Ji) (fun p:(Pr)×Unit=>N7 f p.1) (fun p:(Pr)×Unit=>Jh f p.1) (fun p:(Pr)×Unit=>HE f p.1) (fZ f) (fb f) (fc f) h
attribute [local go_sem] Pr.c zTk
theorem Yt (f:Nat) (hu:MU f):Wp f:=by
 rintro ⟨p,_u⟩ w M I lab fz xs hc hA hl hx
 refine Am Try.func63 rfl ((Ji).mem ⟨p,_u⟩) w M I lab fz [A7,AC,(K5 f hu)] [] ((Ji).args 0 ⟨p,_u⟩) ((fun p:(Pr)×Unit=>HE f p.1) ⟨p,_u⟩) ((fun p:(Pr)×Unit=>Jh f p.1) ⟨p,_u⟩) xs hA hl hx (fun v hv k hk=>by have:=(Ji).an 0 ⟨p,_u⟩ v hv k hk;omega) (jN rfl) (jN rfl) ?_
 clear hx hl hA xs
 simp only[Try.f63]
 obtain⟨hc1,hc2⟩:=hc
 dsimp only at hc1 hc2
 obtain⟨f',rfl⟩:∃f',f=f'+1:=by
  cases f with
  |zero=>
   have h3:p.deep≤40:=hc1.2.2.2.2.1
   have h4:41≤p.deep+((0:Nat):Int):=hc2
   exact absurd h4 (by simp;omega)
  |succ f=>exact⟨f,rfl⟩
 simp only[↓eB,seval,go_sem,AU,Aw,A8,AN,AM,AC,AG,AH,A7,Hu,Ij,Cv,CW,K5,Ah,Ag,Ai,Ac,Tok.r,Ad,ptR,Af,AS,AR,AQ]
 refine Aa (Y:=Nat×List Sm×Pr) (fun y=>okP y.2.2∧dpU (f'+1) y.2.2∧(y.2.2.e=0→(y.2.2.l.length:Int)+1≤y.2.2.i+(y.1:Int))∧(y.2.2.e=0→(y.2.1.length:Int)≤y.2.2.i)∧Mt (C9 (f'+1)) y.1 y.2.1 y.2.2=IK (C9 (f'+1)) p)
  (fun y=>⟨[(0,true,.one (.p 0 0 0)),(3,true,.one (.s 1000))],[(0,.vec 0 zPr [y.2.2.c]),(1000,.vec 0 zSc (y.2.1.map Sm.c))]⟩)
  (fun y=>y.1) (p.l.length+1,[],p) ⟨hc1,hc2,fun _=>by have:=hc1.1;simp only;omega,fun _=>by simpa using hc1.1,rfl⟩ ?_ ?_
 ·refine A4 [.nil 3 1000 zSc] ?_;simp only[↓eB,seval,go_sem,zSc]
 ·rintro ⟨k,l,q⟩ ⟨h1,h2,h3,h4,h5⟩
  refine Ap [A7,AC,K5 (f'+1) hu] [] _ _ _ ?_
  dsimp only at h1 h2 h3 h4 h5
  cases he:(q.e==0) with
  |false=>
   have hr2:IK (C9 (f'+1)) p=(l,q):=by rw[← h5];cases k<;>simp[Mt,he]
   simp only[↓eB,seval,go_sem,AU,Aw,A8,AN,AM,AC,AG,AH,A7,Hu,Ij,Cv,CW,K5,Ah,Ag,Ai,Ac,Tok.r,Ad,ptR,Af,AS,AR,AQ,he]
   try simp only[A2,A3]
   repeat' first|exact ck|with_reducible apply And.intro|intro _
   all_goals first|exact h1|(rename_i h;first|exact oI h|exact nah h)|(rename_i _ h _ g;exact sL h g)|decide|omega|(refine A0 [.fz 1000] ?_;simp only[↓eB,seval,go_sem,bne,Jh,HE,hr2,arS,smS,zSc,zSm,GY.ds,GY.fz])
  |true=>
   have he0:q.e=0:=by simpa using he
   obtain⟨k',rfl⟩:∃k',k=k'+1:=⟨k-1,by have:=h3 he0;have:=h1.2.1;omega⟩
   simp only[Mt,he,if_true]at h5
   have hs:=Qb (f'+1) q h1
   have hI:=h1.i
   have hle:l.length≤4096:=by have:=h4 he0;have:=h1.2.1;have:=h1.2.2.1;omega
   cases it:isT [125] q with
   |true=>
    rw[if_pos it]at h5
    simp only[↓eB,seval,go_sem,AU,Aw,A8,AN,AM,AC,AG,AH,A7,Hu,Ij,Cv,CW,K5,Ah,Ag,Ai,Ac,Tok.r,Ad,ptR,Af,AS,AR,AQ,he,it,BD,adv]
    try simp only[A2,A3]
    repeat' first|exact ck|with_reducible apply And.intro|intro _
    all_goals first|exact h1|exact hI|(rename_i h;first|exact oI h|exact nah h)|(rename_i _ h _ g;exact sL h g)|decide|omega|(refine A0 [.fz 1000] ?_;simp only[↓eB,seval,go_sem,bne,Jh,HE,← h5,arS,adv,smS,zSc,zSm,GY.ds,GY.fz])
   |false=>
    rw[if_neg (by rw[it];decide)]at h5
    cases ib:decide ((q.l.length:Int)≤q.i) with
    |true=>
     rw[if_pos ib]at h5
     simp only[↓eB,seval,go_sem,AU,Aw,A8,AN,AM,AC,AG,AH,A7,Hu,Ij,Cv,CW,K5,Ah,Ag,Ai,Ac,Tok.r,Ad,ptR,Af,AS,AR,AQ,he,it,ib,BD]
     try simp only[A2,A3]
     repeat' first|exact ck|with_reducible apply And.intro|intro _
     all_goals first|exact h1|exact hI|(rename_i h;first|exact oI h|exact nah h)|(rename_i _ h _ g;exact sL h g)|decide|omega|(refine A0 [] ?_;simp only[↓eB,seval,go_sem,bne,Jh,HE,← h5,arS,smS])
    |false=>
     rw[if_neg (by rw[ib];decide)]at h5
     simp only[↓eB,seval,go_sem,AU,Aw,A8,AN,AM,AC,AG,AH,A7,Hu,Ij,Cv,CW,K5,Ah,Ag,Ai,Ac,Tok.r,Ad,ptR,Af,AS,AR,AQ,he,it,ib,BD,zSc,Sm.c,GY.fn]
     try simp only[A2,A3]
     repeat' first|exact ck|with_reducible apply And.intro|intro _
     all_goals try first|exact h1|exact hI|exact h2|(rename_i h;first|exact oI h|exact nah h)|(rename_i _ h _ g;exact sL h g)|decide|omega
     refine⟨(k',l++[(C9 (f'+1) q).1],(C9 (f'+1) q).2),⟨hs.ok,by show dpU _ _;unfold dpU;rw[hs.d];exact h2,?_,?_,h5⟩,Nat.lt_succ_self _,
      Bz (t:=⟨[(0,true,.one (.p 0 0 0)),(3,true,.one (.s 30))],[(0,.vec 0 zPr [(C9 (f'+1) q).2.c]),(30,.vec 0 zSc ((l++[(C9 (f'+1) q).1]).map Sm.c))]⟩) (A4 [] ?_) (A4 [.mv 30 1000] ?_)⟩
     ·exact fun hw0=>by have h6:=h3 he0;have e:=bf f' h1 hw0;dsimp only;rw[hs.l];omega
     ·exact fun hw0=>by have h6:=h4 he0;have e:=bf f' h1 hw0;simp only[jL3];omega
     ·simp only[↓eB,seval,go_sem,zSc,GY.fn,List.flatMap_append,List.map_append,Sm.c]
     ·simp only[↓eB,seval,go_sem,zSc,GY.fn,GY.mv]
abbrev N8 (f:Nat) (p:Pr):Prop:=okP p∧dpU (f+1) p
abbrev Jj (f:Nat) (p:Pr):SV:=.one (smS (Df (C9 f) p).1)
abbrev HF (f:Nat) (p:Pr):List (Option MV):=[some (zPr,[(Df (C9 f) p).2.c])]
noncomputable abbrev Jk:ArgM ((Pr)×Unit):=(amP (mPr) am0)
abbrev Wq (f:Nat):Prop:=Bs Try.prog 88 ((Jk).args 0) (Jk).mem (fun p:(Pr)×Unit=>N8 f p.1) (fun p:(Pr)×Unit=>Jj f p.1) (fun p:(Pr)×Unit=>HF f p.1)
theorem fe (f:Nat):∀p,(fun p:(Pr)×Unit=>N8 f p.1) p→Co ((Jk).mem p).length ((fun p:(Pr)×Unit=>HF f p.1) p)=true:=by intro p _;rfl
theorem ff (f:Nat):∀p,(fun p:(Pr)×Unit=>N8 f p.1) p→Au ((fun p:(Pr)×Unit=>HF f p.1) p).length ((fun p:(Pr)×Unit=>Jj f p.1) p)=true:=by intro p _;first|rfl|exact AO _ _|exact AP _ _|(simp[Au,C0,AO,AP];done)
theorem fg (f:Nat):∀p,(fun p:(Pr)×Unit=>N8 f p.1) p→∀q,some q∈(fun p:(Pr)×Unit=>HF f p.1) p→∀r∈q.2,∀c∈r,c.names=[]:=by intro p _;exact Fg _
noncomputable def Ws {X:Ctx} {w0:World} (f:Nat) (h:Wq f):Sy.Spec Try.prog X w0:=Ca 88 Try.call88 (Jk) (fun p:(Pr)×Unit=>N8 f p.1) (fun p:(Pr)×Unit=>Jj f p.1) (fun p:(Pr)×Unit=>HF f p.1) (fe f) (ff f) (fg f) h
attribute[local go_sem] Tok.r Ad Ai AS Ah Ag AQ ptR Af AR Ac CW K5 Pt Cv Hu AC AU AH A8 AM A7 Ij AG Aw AN in
theorem li (f:Nat) (hu:MU f):Wq f:=by
 rintro ⟨p,_u⟩ w M I lab fz xs hc hA hl hx
 refine Am Try.func88 rfl ((Jk).mem ⟨p,_u⟩) w M I lab fz [AU,AC,AM,(Pt f (Yt f hu))] [] ((Jk).args 0 ⟨p,_u⟩) ((fun p:(Pr)×Unit=>HF f p.1) ⟨p,_u⟩) ((fun p:(Pr)×Unit=>Jj f p.1) ⟨p,_u⟩) xs hA hl hx (fun v hv k hk=>by have:=(Jk).an 0 ⟨p,_u⟩ v hv k hk;omega) (jN rfl) (jN rfl) ?_
 clear hx hl hA xs
 simp only[Try.f88]
 obtain⟨hc1,hc2⟩:=hc
 dsimp only at hc1 hc2
 have hI:=hc1.i
 cases i0:isT [123] p with
 |false=>
  have hr:Df (C9 f) p=([],CI 51 p):=by simp[Df,i0]
  simp only[↓eB,seval,go_sem,i0]
  try simp only[A2,A3]
  repeat' first|exact ck|with_reducible apply And.intro|intro _
  all_goals first|exact hI|exact hc1|(rename_i h;first|exact oI h|exact nah h)|(rename_i _ h _ g;exact sL h g)|decide|omega|(refine A0 [] ?_;simp only[↓eB,seval,go_sem,bne,Jj,HF,hr,arS,smS])
 |true=>
 cases ob:Er p with
 |false=>
  have hr:Df (C9 f) p=([],Bl p):=by simp[Df,i0,ob]
  simp only[↓eB,seval,go_sem,i0,ob]
  try simp only[A2,A3]
  repeat' first|exact ck|with_reducible apply And.intro|intro _
  all_goals first|exact hI|exact hc1|(rename_i h;first|exact oI h|exact nah h)|(rename_i _ h _ g;exact sL h g)|decide|omega|(refine A0 [] ?_;simp only[↓eB,seval,go_sem,bne,Jj,HF,hr,arS,smS])
 |true=>
  have hr:Df (C9 f) p=((IK (C9 f) (adv (Bl p))).1,shut (IK (C9 f) (adv (Bl p))).2):=by simp[Df,i0,ob]
  have ha:=Gk hc1 ob (B9 i0).2
  have hd:=Wy hc1 ob hc2
  simp only[↓eB,seval,go_sem,i0,ob]
  try simp only[A2,A3]
  repeat' first|exact ck|with_reducible apply And.intro|intro _
  all_goals first|exact hI|exact hc1|exact ha.ok|exact hd|(rename_i h;first|exact oI h|exact nah h)|(rename_i _ h _ g;exact sL h g)|decide|omega|(refine A0 [] ?_;simp only[↓eB,seval,go_sem,bne,Jj,HF,hr,arS,smS,shut,adv])
end Go.Proofs.Ytjnnmindcbgjhaa
