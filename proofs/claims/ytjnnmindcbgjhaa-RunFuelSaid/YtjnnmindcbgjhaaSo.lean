/- A statement's row while it is read. No conditions but those in each statement. -/
import Derived.Test.YtjnnmindcbgjhaaAt
import Derived.Test.YtjnnmindcbgjhaaPn
set_option linter.unusedVariables false
set_option linter.unusedSimpArgs false
set_option maxRecDepth 20000
set_option maxHeartbeats 8000000
open List (map_append)
namespace Go.Proofs.Ytjnnmindcbgjhaa
open Go Go.Sy Go.RowKit
abbrev arS (l:List Ar):C:=.d (.sl zAr (l.map Ar.r))
def arO:Option (List Ar)→C
 |none=>.v (.slice none 0 0)
 |some l=>arS l
structure Sf where
 x:List UInt8
 no:Int
def Sf.c (s:Sf):List C:=[.v (.int .i64 0),.v (.string (bs s.x)),.v (.string (bs [])),.v (.pointer none),.v (.pointer none),.v (.pointer none),.v (.slice none 0 0),.v (.slice none 0 0),.v (.slice none 0 0),.v (.int .i64 s.no)]
def OE (s:Sf) (v:VR):List C:=[.v (.int .i64 v.k),.v (.string (bs s.x)),.v (.string (bs v.y)),exC v.e,.v (.pointer none),.v (.pointer none),arO v.a,.v (.slice none 0 0),.v (.slice none 0 0),.v (.int .i64 s.no)]
theorem A1h (s:Sf):∀c∈s.c,c.names=[]:=by
 intro c hc
 simp only[Sf.c,List.mem_cons,List.not_mem_nil,or_false]at hc
 rcases hc with rfl|rfl|rfl|rfl|rfl|rfl|rfl|rfl|rfl|rfl<;>rfl
theorem CC (o:Option (List Ar)):(arO o).names=[]:=by cases o<;>rfl
theorem Cq (o:Option (List Ar)):C.stor (arO o)=true:=by cases o<;>rfl
theorem Cr (o:Option (List Ar)):Dm (arO o)=true:=by cases o<;>rfl
theorem DH (k u:Nat) (p:List (Nat×Nat)) (i j:Nat) (o:Option (List Ar)) (r:List C):ldc k u p i j (arO o::r)=arO o::ldc k u p i (j+1) r:=by cases o<;>rfl
theorem JN (o:Option (List Ar)):leC (arO o) (.d (.sl zAr ((o.getD []).map Ar.r)))=True:=by
 cases o with
 |none=>exact Gq _
 |some l=>exact Fl _
theorem NQ:arO none= .v (.slice none 0 0):=rfl
theorem iU (l:List Ar):arO (some l)= .d (.sl zAr (l.map Ar.r)):=rfl
theorem wI (a b:Sf) (h:a.c=b.c):a=b:=by
 obtain⟨x,no⟩:=a
 obtain⟨x',no'⟩:=b
 simp only[Sf.c,List.cons.injEq,C.v.injEq,Value.int.injEq,Value.string.injEq,true_and,and_true]at h
 rw[bs_inj h.1,h.2]
noncomputable def mSf:RowM Sf:=Lw zSc Sf.c A1h
theorem l6:mSf.z=zSc:=rfl
theorem l7:mSf.e=Sf.c:=rfl
theorem A1i (x:List UInt8) (no:Int):mSf.d [.v (.int .i64 0),.v (.string (bs x)),.v (.string (bs [])),.v (.pointer none),.v (.pointer none),.v (.pointer none),.v (.slice none 0 0),.v (.slice none 0 0),.v (.slice none 0 0),.v (.int .i64 no)]=some ⟨x,no⟩:=HL wI ⟨x,no⟩
end Go.Proofs.Ytjnnmindcbgjhaa
namespace Go.Proofs.Ytjnnmindcbgjhaa
open Go Go.Sy Go.RowKit
abbrev PK (p:Pr):Prop:=okP p
abbrev LQ (p:Pr):SV:=.one (arS (Gk p).1)
abbrev J6 (p:Pr):List (Option MV):=[some (zPr,[(Gk p).2.c])]
noncomputable abbrev LR:ArgM ((Pr)×Unit):=(amP (mPr) am0)
abbrev pV:Prop:=Bs Try.prog 89 ((LR).args 0) (LR).mem (fun p:(Pr)×Unit=>PK p.1) (fun p:(Pr)×Unit=>LQ p.1) (fun p:(Pr)×Unit=>J6 p.1)
theorem pW:∀p,(fun p:(Pr)×Unit=>PK p.1) p→Cm ((LR).mem p).length ((fun p:(Pr)×Unit=>J6 p.1) p)=true:=by intro p _;rfl
theorem pX:∀p,(fun p:(Pr)×Unit=>PK p.1) p→As ((fun p:(Pr)×Unit=>J6 p.1) p).length ((fun p:(Pr)×Unit=>LQ p.1) p)=true:=by intro p _;first|rfl|exact AO _ _|exact AP _ _|(simp[As,Bz,AO,AP];done)
theorem pY:∀p,(fun p:(Pr)×Unit=>PK p.1) p→∀q,some q∈(fun p:(Pr)×Unit=>J6 p.1) p→∀r∈q.2,∀c∈r,c.names=[]:=by intro p _;exact Fg _
attribute [local go_sem] Pr.c zTk
theorem wJ:pV:=by
 rintro ⟨p,_u⟩ w M I lab fz xs hc hA hl hx
 refine Am Try.func89 rfl ((LR).mem ⟨p,_u⟩) w M I lab fz [A7,AG,Uj] [] ((LR).args 0 ⟨p,_u⟩) ((fun p:(Pr)×Unit=>J6 p.1) ⟨p,_u⟩) ((fun p:(Pr)×Unit=>LQ p.1) ⟨p,_u⟩) xs hA hl hx (fun v hv k hk=>by have:=(LR).an 0 ⟨p,_u⟩ v hv k hk;omega) (jN rfl) (jN rfl) ?_
 clear hx hl hA xs
 simp only[Try.f89]
 have hc1:okP p:=hc
 cases i0:isT [41] p with
 |true=>
  have hr:Gk p=([],adv p):=by simp[Gk,i0]
  simp only[↓eB,seval,go_sem,AU,Aw,A8,AN,AM,AC,AG,AH,A7,Cv,CV,Ah,Ag,Ai,Ac,Tok.r,Ad,ptR,Af,AS,AR,AQ,i0,B9]
  try simp only[A2,A3]
  repeat' first|exact ck|with_reducible apply And.intro|intro _
  all_goals first|exact hc1|(rename_i h;first|exact oI h|exact nah h)|(rename_i _ h _ g;exact sL h g)|decide|omega|(refine A0 [] ?_;simp only[↓eB,seval,go_sem,bne,LQ,J6,hr,arS,adv])
 |false=>
 have hr:Gk p=N6 (p.l.length+1) [] p:=by simp[Gk,i0]
 simp only[↓eB,seval,go_sem,AU,Aw,A8,AN,AM,AC,AG,AH,A7,Cv,CV,Ah,Ag,Ai,Ac,Tok.r,Ad,ptR,Af,AS,AR,AQ,i0,B9]
 refine⟨hc1,?_⟩
 refine Ab (Y:=Nat×List Ar×Pr) (fun y=>okP y.2.2∧(y.2.2.e=0→(y.2.2.l.length:Int)+1≤y.2.2.i+(y.1:Int))∧(y.2.2.e=0→(y.2.1.length:Int)≤y.2.2.i)∧N6 y.1 y.2.1 y.2.2=Gk p)
  (fun y=>⟨[(0,true,.one (.p 0 0 0)),(3,true,.one (.s 1000))],[(0,.vec 0 zPr [y.2.2.c]),(1000,.vec 0 zAc (y.2.1.map Ar.c))]⟩)
  (fun y=>y.1) (p.l.length+1,[],p) ⟨hc1,fun _=>by have:=hc1.1;simp only;omega,fun _=>by simpa using hc1.1,hr.symm⟩ ?_ ?_
 ·refine A4 [.nil 3 1000 zAc] ?_;simp only[↓eB,seval,go_sem,zAc]
 ·rintro ⟨k,l,q⟩ ⟨h1,h2,h3,h4⟩
  refine Au [A7,AG,Uj] [] _ _ _ ?_
  dsimp only at h1 h2 h3 h4
  cases he:(q.e==0) with
  |false=>
   have hr2:Gk p=([],q):=by rw[← h4];cases k<;>simp[N6,he]
   simp only[↓eB,seval,go_sem,AU,Aw,A8,AN,AM,AC,AG,AH,A7,Cv,CV,Ah,Ag,Ai,Ac,Tok.r,Ad,ptR,Af,AS,AR,AQ,he]
   try simp only[A2,A3]
   repeat' first|exact ck|with_reducible apply And.intro|intro _
   all_goals first|exact h1|(rename_i h;first|exact oI h|exact nah h)|(rename_i _ h _ g;exact sL h g)|decide|omega|(refine A0 [] ?_;simp only[↓eB,seval,go_sem,bne,LQ,J6,hr2,arS])
  |true=>
   have he0:q.e=0:=by simpa using he
   obtain⟨k',rfl⟩:∃k',k=k'+1:=⟨k-1,by have:=h2 he0;have:=h1.2.1;omega⟩
   simp only[N6,he,if_true]at h4
   have hs:=E7 h1
   have hle:l.length≤4096:=by have:=h3 he0;have:=h1.2.1;have:=h1.2.2.1;omega
   have hd:=L3 h1
   cases it:isT [41] (exS q).2 with
   |true=>
    rw[if_pos it]at h4
    have hb:=B6 hs.ok it
    simp only[↓eB,seval,go_sem,AU,Aw,A8,AN,AM,AC,AG,AH,A7,Cv,CV,Ah,Ag,Ai,Ac,Tok.r,Ad,ptR,Af,AS,AR,AQ,he,it,B9,adv,zAc,H8.fn]
    try simp only[A2,A3]
    repeat' first|exact ck|with_reducible apply And.intro|intro _
    all_goals first|exact h1|exact hd|exact hs.ok|(rename_i h;first|exact oI h|exact nah h)|(rename_i _ h _ g;exact sL h g)|decide|omega|(refine A0 [.fz 16] ?_;simp only[↓eB,seval,go_sem,bne,LQ,J6,← h4,arS,adv,zAr,H8.ds1,map_append,Ar.r])
   |false=>
    rw[if_neg (by rw[it];decide)]at h4
    have hw:=BB (t:=[44]) hs.ok
    simp only[↓eB,seval,go_sem,AU,Aw,A8,AN,AM,AC,AG,AH,A7,Cv,CV,Ah,Ag,Ai,Ac,Tok.r,Ad,ptR,Af,AS,AR,AQ,he,it,B9,zAc,H8.fn]
    try simp only[A2,A3]
    repeat' first|exact ck|with_reducible apply And.intro|intro _
    all_goals try first|exact h1|exact hd|exact hs.ok|(rename_i h;first|exact oI h|exact nah h)|(rename_i _ h _ g;exact sL h g)|decide|omega
    refine⟨(k',l++[⟨false,[],(exS q).1⟩],B1 [44] (exS q).2),⟨hw.ok,?_,?_,h4⟩,Nat.lt_succ_self _,
     Br (t:=⟨[(0,true,.one (.p 0 0 0)),(3,true,.one (.s 16))],[(0,.vec 0 zPr [(B1 [44] (exS q).2).c]),(16,.vec 0 zAc ((l++[(⟨false,[],(exS q).1⟩:Ar)]).map Ar.c))]⟩) (A4 [] ?_) (A4 [.mv 16 1000] ?_)⟩
    ·exact fun hw0=>by have h5:=h2 he0;have hi1:=hs.i;have e:=TV hs.ok hw0;dsimp only;rw[hw.l,hs.l];omega
    ·exact fun hw0=>by have h5:=h3 he0;have hi1:=hs.i;have e:=TV hs.ok hw0;simp only[jL3];omega
    ·simp only[↓eB,seval,go_sem,zAc,H8.fn,List.flatMap_append,map_append,Ar.c]
    ·simp only[↓eB,seval,go_sem,zAc,H8.fn,H8.mv]
noncomputable def Hq {X:Ctx} {w0:World}:Sy.Spec Try.prog X w0:=CY 89 Try.call89 (LR) (fun p:(Pr)×Unit=>PK p.1) (fun p:(Pr)×Unit=>LQ p.1) (fun p:(Pr)×Unit=>J6 p.1) pW pX pY wJ
end Go.Proofs.Ytjnnmindcbgjhaa
namespace Go.Proofs.Ytjnnmindcbgjhaa
open Go Go.Sy Go.RowKit
theorem pZ (p:Pr) (s:Sf) (v:VR):∀q,some q∈[some ((zPr,[p.c]):MV),some ((zSc,[OE s v]):MV)]→∀r∈q.2,∀c∈r,c.names=[]:=by
 intro q hq r hr c hc
 simp only[List.mem_cons,List.not_mem_nil,or_false,jS]at hq
 rcases hq with rfl|rfl
 ·simp only[List.mem_singleton]at hr;subst hr;exact TB p c hc
 ·simp only[List.mem_singleton]at hr;subst hr
  simp only[OE,List.mem_cons,List.not_mem_nil,or_false]at hc
  rcases hc with rfl|rfl|rfl|rfl|rfl|rfl|rfl|rfl|rfl|rfl<;>first|rfl|exact Ff _|exact CC _
abbrev NR (p:Pr) (s:Sf):Prop:=okP p
abbrev GS (p:Pr) (s:Sf):SV:=.tup []
abbrev FD (p:Pr) (s:Sf):List (Option MV):=[some (zPr,[(EX p).2.c]),some (zSc,[OE s (EX p).1])]
noncomputable abbrev Jk:ArgM ((Pr)×(Sf)×Unit):=(amP (mPr) (amP (mSf) am0))
abbrev iV:Prop:=Bs Try.prog 90 ((Jk).args 0) (Jk).mem (fun p:(Pr)×(Sf)×Unit=>NR p.1 p.2.1) (fun p:(Pr)×(Sf)×Unit=>GS p.1 p.2.1) (fun p:(Pr)×(Sf)×Unit=>FD p.1 p.2.1)
theorem iW:∀p,(fun p:(Pr)×(Sf)×Unit=>NR p.1 p.2.1) p→Cm ((Jk).mem p).length ((fun p:(Pr)×(Sf)×Unit=>FD p.1 p.2.1) p)=true:=by intro p _;rfl
theorem iX:∀p,(fun p:(Pr)×(Sf)×Unit=>NR p.1 p.2.1) p→As ((fun p:(Pr)×(Sf)×Unit=>FD p.1 p.2.1) p).length ((fun p:(Pr)×(Sf)×Unit=>GS p.1 p.2.1) p)=true:=by intro p _;first|rfl|exact AO _ _|exact AP _ _|(simp[As,Bz,AO,AP];done)
theorem iY:∀p,(fun p:(Pr)×(Sf)×Unit=>NR p.1 p.2.1) p→∀q,some q∈(fun p:(Pr)×(Sf)×Unit=>FD p.1 p.2.1) p→∀r∈q.2,∀c∈r,c.names=[]:=by intro p _;exact pZ _ _ _
attribute [local go_sem] Pr.c Sf.c Tok.r Ad Ai AS Ah Ag l7 l6 AQ ptR Af AR B9 Ac CV Cv Hq AC AU AH A8 AM A7 AG Aw AN zTk
theorem pb:iV:=by
 rintro ⟨p,s,_u⟩ w M I lab fz xs hc hA hl hx
 refine Am Try.func90 rfl ((Jk).mem ⟨p,s,_u⟩) w M I lab fz [A7,A8,AH,AG,Hq,Uj] [] ((Jk).args 0 ⟨p,s,_u⟩) ((fun p:(Pr)×(Sf)×Unit=>FD p.1 p.2.1) ⟨p,s,_u⟩) ((fun p:(Pr)×(Sf)×Unit=>GS p.1 p.2.1) ⟨p,s,_u⟩) xs hA hl hx (fun v hv k hk=>by have:=(Jk).an 0 ⟨p,s,_u⟩ v hv k hk;omega) (jN rfl) (jN rfl) ?_
 clear hx hl hA xs
 simp only[Try.f90]
 have hc1:okP p:=hc
 have hI:=hc1.i
 have hdp:=L3 hc1
 cases i0:isT jx p with
 |true=>
  have hr:EX p=(⟨3,[],.nil,none⟩,adv p):=by simp[EX,i0]
  simp only[↓eB,seval,go_sem,i0]
  try simp only[A2,A3]
  repeat' first|exact ck|with_reducible apply And.intro|intro _
  all_goals first|exact hI|exact hc1|(rename_i h;first|exact oI h|exact nah h)|(rename_i _ h _ g;exact sL h g)|decide|omega|(refine A0 [] ?_;simp only[↓eB,seval,go_sem,bne,GS,FD,hr,arS,adv,OE,NQ,AY,zSc])
 |false=>
 cases i1:isT [38] p with
 |true=>
  have hr:EX p=(⟨1,Cz (adv p),.nil,none⟩,BW (adv p)):=by simp[EX,i0,i1]
  have ha:=B6 hc1 i1
  simp only[↓eB,seval,go_sem,i0,i1,adv]
  try simp only[A2,A3]
  repeat' first|exact ck|with_reducible apply And.intro|intro _
  all_goals first|exact hI|exact hc1|exact ha.ok|(rename_i h;first|exact oI h|exact nah h)|(rename_i _ h _ g;exact sL h g)|decide|omega|(refine A0 [] ?_;simp only[↓eB,seval,go_sem,bne,GS,FD,hr,arS,adv,OE,NQ,AY,zSc])
 |false=>
 cases i2:isT [42] p with
 |true=>
  have hr:EX p=(⟨4,Cz (adv p),.nil,none⟩,BW (adv p)):=by simp[EX,i0,i1,i2]
  have ha:=B6 hc1 i2
  simp only[↓eB,seval,go_sem,i0,i1,i2,adv]
  try simp only[A2,A3]
  repeat' first|exact ck|with_reducible apply And.intro|intro _
  all_goals first|exact hI|exact hc1|exact ha.ok|(rename_i h;first|exact oI h|exact nah h)|(rename_i _ h _ g;exact sL h g)|decide|omega|(refine A0 [] ?_;simp only[↓eB,seval,go_sem,bne,GS,FD,hr,arS,adv,OE,NQ,AY,zSc])
 |false=>
 have n5:IntKind.i64.wrap (p.i+1)=p.i+1:=by obtain⟨h1,h2,h3,_⟩:=hc1;exact wrap_i64 (by omega) (by omega)
 have q0:(0≤p.i+1)=True:=by have:=hc1.1;simp;omega
 cases i3:ahB [91] p with
 |true=>
  have hr:EX p=(⟨6,Cz p,(exS (adv (BW p))).1,none⟩,B1 [93] (exS (adv (BW p))).2):=by simp[EX,i0,i1,i2,i3]
  obtain⟨hna,z1,_,z2⟩:=a7 hc1 i3
  have z0:decide (p.i+1<(p.l.length:Int))=true:=by simp[z1]
  have z0':(p.i+1<(p.l.length:Int))=True:=by simp[z1]
  have ha:=Wj hc1 i3
  have hs:=E7 ha.ok
  have hd:=L3 ha.ok
  simp only[↓eB,seval,go_sem,i0,i1,i2,hna,n5,q0,z0,z0',z2]
  try simp only[A2,A3]
  repeat' first|exact ck|with_reducible apply And.intro|intro _
  all_goals first|exact hI|exact hc1|exact ha.ok|exact hs.ok|exact hd|(rename_i h;first|exact oI h|exact nah h)|(rename_i _ h _ g;exact sL h g)|decide|omega|(refine A0 [] ?_;simp only[↓eB,seval,go_sem,bne,GS,FD,hr,arS,adv,OE,NQ,AY,zSc])
 |false=>
 have g3:=i3
 unfold ahB tkA at g3
 simp only[w64i,n5]at g3
 cases i4:ahB [40] p with
 |true=>
  have hr:EX p=(⟨8,Cz p,.nil,some (Gk (adv (BW p))).1⟩,(Gk (adv (BW p))).2):=by simp[EX,i0,i1,i2,i3,i4]
  obtain⟨hna,z1,_,z2⟩:=a7 hc1 i4
  have z0:decide (p.i+1<(p.l.length:Int))=true:=by simp[z1]
  have z0':(p.i+1<(p.l.length:Int))=True:=by simp[z1]
  have z3:((p.l.getD (p.i+1).toNat tk0).t==[91])=false:=by rw[hna,z0]at g3;simpa using g3
  have ha:=Wj hc1 i4
  simp only[↓eB,seval,go_sem,i0,i1,i2,hna,n5,q0,z0,z0',z2,z3]
  try simp only[A2,A3]
  repeat' first|exact ck|with_reducible apply And.intro|intro _
  all_goals first|exact hI|exact hc1|exact ha.ok|(rename_i h;first|exact oI h|exact nah h)|(rename_i _ h _ g;exact sL h g)|decide|omega|(refine A0 [] ?_;simp only[↓eB,seval,go_sem,bne,GS,FD,hr,arS,adv,OE,iU,AY,zSc])
 |false=>
 have hr:EX p=(⟨0,[],(exS p).1,none⟩,(exS p).2):=by simp[EX,i0,i1,i2,i3,i4]
 have g4:=i4
 unfold ahB tkA at g4
 simp only[w64i,n5]at g4
 simp only[↓eB,seval,go_sem,i0,i1,i2,g3,g4,n5,q0]
 try simp only[A2,A3]
 repeat' first|exact ck|with_reducible apply And.intro|intro _
 all_goals first|exact hI|exact hc1|exact hdp|(assumption)|(simp only[Bool.and_eq_true,decide_eq_true_eq]at *;omega)|(rename_i h;first|exact oI h|exact nah h)|(rename_i _ h _ g;exact sL h g)|decide|omega|(refine A0 [] ?_;simp only[↓eB,seval,go_sem,bne,GS,FD,hr,arS,adv,OE,NQ,AY,zSc])
noncomputable def Ij {X:Ctx} {w0:World}:Sy.Spec Try.prog X w0:=CY 90 Try.call90 (Jk) (fun p:(Pr)×(Sf)×Unit=>NR p.1 p.2.1) (fun p:(Pr)×(Sf)×Unit=>GS p.1 p.2.1) (fun p:(Pr)×(Sf)×Unit=>FD p.1 p.2.1) iW iX iY pb
end Go.Proofs.Ytjnnmindcbgjhaa
namespace Go.Proofs.Ytjnnmindcbgjhaa
open Go Go.Sy Go.RowKit
abbrev smS (l:List Sm):C:=.d (.sl zSm (l.map Sm.r))
theorem wK (n:Nat) (s:Sm):As n (.agg s.c)=true:=by
 show s.c.all (Bz n)=true
 unfold Sm.c
 simp only[List.all_cons,List.all_nil,AO,AP,Bool.and_true]
 rfl
end Go.Proofs.Ytjnnmindcbgjhaa
namespace Go.Proofs.Ytjnnmindcbgjhaa
open Go Go.Sy Go.RowKit
abbrev PL (f:Nat) (p:Pr):Prop:=okP p∧dpU f p
abbrev F7 (f:Nat) (p:Pr):SV:=.agg (C0 f p).1.c
abbrev ER (f:Nat) (p:Pr):List (Option MV):=[some (zPr,[(C0 f p).2.c])]
noncomputable abbrev LS:ArgM ((Pr)×Unit):=(amP (mPr) am0)
abbrev Mb (f:Nat):Prop:=Bs Try.prog 77 ((LS).args 0) (LS).mem (fun p:(Pr)×Unit=>PL f p.1) (fun p:(Pr)×Unit=>F7 f p.1) (fun p:(Pr)×Unit=>ER f p.1)
theorem pd (f:Nat):∀p,(fun p:(Pr)×Unit=>PL f p.1) p→Cm ((LS).mem p).length ((fun p:(Pr)×Unit=>ER f p.1) p)=true:=by intro p _;rfl
theorem pe (f:Nat):∀p,(fun p:(Pr)×Unit=>PL f p.1) p→As ((fun p:(Pr)×Unit=>ER f p.1) p).length ((fun p:(Pr)×Unit=>F7 f p.1) p)=true:=by intro p _;exact wK _ _
theorem pg (f:Nat):∀p,(fun p:(Pr)×Unit=>PL f p.1) p→∀q,some q∈(fun p:(Pr)×Unit=>ER f p.1) p→∀r∈q.2,∀c∈r,c.names=[]:=by intro p _;exact Fg _
noncomputable def K7 {X:Ctx} {w0:World} (f:Nat) (h:Mb f):Sy.Spec Try.prog X w0:=CY 77 Try.call77 (LS) (fun p:(Pr)×Unit=>PL f p.1) (fun p:(Pr)×Unit=>F7 f p.1) (fun p:(Pr)×Unit=>ER f p.1) (pd f) (pe f) (pg f) h
abbrev NS (f:Nat) (p:Pr):Prop:=okP p∧dpU f p
abbrev Jl (f:Nat) (p:Pr):SV:=.one (smS (stmtsW (C0 f) p).1)
abbrev HJ (f:Nat) (p:Pr):List (Option MV):=[some (zPr,[(stmtsW (C0 f) p).2.c])]
noncomputable abbrev Jm:ArgM ((Pr)×Unit):=(amP (mPr) am0)
abbrev XT (f:Nat):Prop:=Bs Try.prog 63 ((Jm).args 0) (Jm).mem (fun p:(Pr)×Unit=>NS f p.1) (fun p:(Pr)×Unit=>Jl f p.1) (fun p:(Pr)×Unit=>HJ f p.1)
theorem iZ (f:Nat):∀p,(fun p:(Pr)×Unit=>NS f p.1) p→Cm ((Jm).mem p).length ((fun p:(Pr)×Unit=>HJ f p.1) p)=true:=by intro p _;rfl
theorem ia (f:Nat):∀p,(fun p:(Pr)×Unit=>NS f p.1) p→As ((fun p:(Pr)×Unit=>HJ f p.1) p).length ((fun p:(Pr)×Unit=>Jl f p.1) p)=true:=by intro p _;first|rfl|exact AO _ _|exact AP _ _|(simp[As,Bz,AO,AP];done)
theorem ie (f:Nat):∀p,(fun p:(Pr)×Unit=>NS f p.1) p→∀q,some q∈(fun p:(Pr)×Unit=>HJ f p.1) p→∀r∈q.2,∀c∈r,c.names=[]:=by intro p _;exact Fg _
noncomputable def Q3 {X:Ctx} {w0:World} (f:Nat) (h:XT f):Sy.Spec Try.prog X w0:=CY 63 Try.call63 (Jm) (fun p:(Pr)×Unit=>NS f p.1) (fun p:(Pr)×Unit=>Jl f p.1) (fun p:(Pr)×Unit=>HJ f p.1) (iZ f) (ia f) (ie f) h
attribute [local go_sem] Pr.c zTk
theorem ZY (f:Nat) (hu:Mb f):XT f:=by
 rintro ⟨p,_u⟩ w M I lab fz xs hc hA hl hx
 refine Am Try.func63 rfl ((Jm).mem ⟨p,_u⟩) w M I lab fz [A7,AC,(K7 f hu)] [] ((Jm).args 0 ⟨p,_u⟩) ((fun p:(Pr)×Unit=>HJ f p.1) ⟨p,_u⟩) ((fun p:(Pr)×Unit=>Jl f p.1) ⟨p,_u⟩) xs hA hl hx (fun v hv k hk=>by have:=(Jm).an 0 ⟨p,_u⟩ v hv k hk;omega) (jN rfl) (jN rfl) ?_
 clear hx hl hA xs
 simp only[Try.f63]
 obtain⟨hc1,hc2⟩:=hc
 dsimp only at hc1 hc2
 obtain⟨f',rfl⟩:∃f',f=f'+1:=by
  cases f with
  |zero=>
   have h3:p.deep≤40:=hc1.2.2.2.2.1
   have h4:41≤p.deep+((0:Nat):Int):=hc2
   exact absurd h4 (by simp;omega)
  |succ f=>exact⟨f,rfl⟩
 simp only[↓eB,seval,go_sem,AU,Aw,A8,AN,AM,AC,AG,AH,A7,Hq,Ij,Cv,CV,K7,Ah,Ag,Ai,Ac,Tok.r,Ad,ptR,Af,AS,AR,AQ]
 refine Ab (Y:=Nat×List Sm×Pr) (fun y=>okP y.2.2∧dpU (f'+1) y.2.2∧(y.2.2.e=0→(y.2.2.l.length:Int)+1≤y.2.2.i+(y.1:Int))∧(y.2.2.e=0→(y.2.1.length:Int)≤y.2.2.i)∧stmtsL (C0 (f'+1)) y.1 y.2.1 y.2.2=stmtsW (C0 (f'+1)) p)
  (fun y=>⟨[(0,true,.one (.p 0 0 0)),(3,true,.one (.s 1000))],[(0,.vec 0 zPr [y.2.2.c]),(1000,.vec 0 zSc (y.2.1.map Sm.c))]⟩)
  (fun y=>y.1) (p.l.length+1,[],p) ⟨hc1,hc2,fun _=>by have:=hc1.1;simp only;omega,fun _=>by simpa using hc1.1,rfl⟩ ?_ ?_
 ·refine A4 [.nil 3 1000 zSc] ?_;simp only[↓eB,seval,go_sem,zSc]
 ·rintro ⟨k,l,q⟩ ⟨h1,h2,h3,h4,h5⟩
  refine Au [A7,AC,K7 (f'+1) hu] [] _ _ _ ?_
  dsimp only at h1 h2 h3 h4 h5
  cases he:(q.e==0) with
  |false=>
   have hr2:stmtsW (C0 (f'+1)) p=(l,q):=by rw[← h5];cases k<;>simp[stmtsL,he]
   simp only[↓eB,seval,go_sem,AU,Aw,A8,AN,AM,AC,AG,AH,A7,Hq,Ij,Cv,CV,K7,Ah,Ag,Ai,Ac,Tok.r,Ad,ptR,Af,AS,AR,AQ,he]
   try simp only[A2,A3]
   repeat' first|exact ck|with_reducible apply And.intro|intro _
   all_goals first|exact h1|(rename_i h;first|exact oI h|exact nah h)|(rename_i _ h _ g;exact sL h g)|decide|omega|(refine A0 [.fz 1000] ?_;simp only[↓eB,seval,go_sem,bne,Jl,HJ,hr2,arS,smS,zSc,zSm,GY.ds,GY.fz])
  |true=>
   have he0:q.e=0:=by simpa using he
   obtain⟨k',rfl⟩:∃k',k=k'+1:=⟨k-1,by have:=h3 he0;have:=h1.2.1;omega⟩
   simp only[stmtsL,he,if_true]at h5
   have hs:=Mq (f'+1) q h1
   have hI:=h1.i
   have hle:l.length≤4096:=by have:=h4 he0;have:=h1.2.1;have:=h1.2.2.1;omega
   cases it:isT [125] q with
   |true=>
    rw[if_pos it]at h5
    simp only[↓eB,seval,go_sem,AU,Aw,A8,AN,AM,AC,AG,AH,A7,Hq,Ij,Cv,CV,K7,Ah,Ag,Ai,Ac,Tok.r,Ad,ptR,Af,AS,AR,AQ,he,it,B9,adv]
    try simp only[A2,A3]
    repeat' first|exact ck|with_reducible apply And.intro|intro _
    all_goals first|exact h1|exact hI|(rename_i h;first|exact oI h|exact nah h)|(rename_i _ h _ g;exact sL h g)|decide|omega|(refine A0 [.fz 1000] ?_;simp only[↓eB,seval,go_sem,bne,Jl,HJ,← h5,arS,adv,smS,zSc,zSm,GY.ds,GY.fz])
   |false=>
    rw[if_neg (by rw[it];decide)]at h5
    cases ib:decide ((q.l.length:Int)≤q.i) with
    |true=>
     rw[if_pos ib]at h5
     simp only[↓eB,seval,go_sem,AU,Aw,A8,AN,AM,AC,AG,AH,A7,Hq,Ij,Cv,CV,K7,Ah,Ag,Ai,Ac,Tok.r,Ad,ptR,Af,AS,AR,AQ,he,it,ib,B9]
     try simp only[A2,A3]
     repeat' first|exact ck|with_reducible apply And.intro|intro _
     all_goals first|exact h1|exact hI|(rename_i h;first|exact oI h|exact nah h)|(rename_i _ h _ g;exact sL h g)|decide|omega|(refine A0 [] ?_;simp only[↓eB,seval,go_sem,bne,Jl,HJ,← h5,arS,smS])
    |false=>
     rw[if_neg (by rw[ib];decide)]at h5
     simp only[↓eB,seval,go_sem,AU,Aw,A8,AN,AM,AC,AG,AH,A7,Hq,Ij,Cv,CV,K7,Ah,Ag,Ai,Ac,Tok.r,Ad,ptR,Af,AS,AR,AQ,he,it,ib,B9,zSc,Sm.c,GY.fn]
     try simp only[A2,A3]
     repeat' first|exact ck|with_reducible apply And.intro|intro _
     all_goals try first|exact h1|exact hI|exact h2|(rename_i h;first|exact oI h|exact nah h)|(rename_i _ h _ g;exact sL h g)|decide|omega
     refine⟨(k',l++[(C0 (f'+1) q).1],(C0 (f'+1) q).2),⟨hs.ok,by show dpU _ _;unfold dpU;rw[hs.d];exact h2,?_,?_,h5⟩,Nat.lt_succ_self _,
      Br (t:=⟨[(0,true,.one (.p 0 0 0)),(3,true,.one (.s 30))],[(0,.vec 0 zPr [(C0 (f'+1) q).2.c]),(30,.vec 0 zSc ((l++[(C0 (f'+1) q).1]).map Sm.c))]⟩) (A4 [] ?_) (A4 [.mv 30 1000] ?_)⟩
     ·exact fun hw0=>by have h6:=h3 he0;have e:=bp f' h1 hw0;dsimp only;rw[hs.l];omega
     ·exact fun hw0=>by have h6:=h4 he0;have e:=bp f' h1 hw0;simp only[jL3];omega
     ·simp only[↓eB,seval,go_sem,zSc,GY.fn,List.flatMap_append,map_append,Sm.c]
     ·simp only[↓eB,seval,go_sem,zSc,GY.fn,GY.mv]
abbrev NT (f:Nat) (p:Pr):Prop:=okP p∧dpU (f+1) p
abbrev Jn (f:Nat) (p:Pr):SV:=.one (smS (blkW (C0 f) p).1)
abbrev HK (f:Nat) (p:Pr):List (Option MV):=[some (zPr,[(blkW (C0 f) p).2.c])]
noncomputable abbrev Jo:ArgM ((Pr)×Unit):=(amP (mPr) am0)
abbrev XU (f:Nat):Prop:=Bs Try.prog 88 ((Jo).args 0) (Jo).mem (fun p:(Pr)×Unit=>NT f p.1) (fun p:(Pr)×Unit=>Jn f p.1) (fun p:(Pr)×Unit=>HK f p.1)
theorem ig (f:Nat):∀p,(fun p:(Pr)×Unit=>NT f p.1) p→Cm ((Jo).mem p).length ((fun p:(Pr)×Unit=>HK f p.1) p)=true:=by intro p _;rfl
theorem ii (f:Nat):∀p,(fun p:(Pr)×Unit=>NT f p.1) p→As ((fun p:(Pr)×Unit=>HK f p.1) p).length ((fun p:(Pr)×Unit=>Jn f p.1) p)=true:=by intro p _;first|rfl|exact AO _ _|exact AP _ _|(simp[As,Bz,AO,AP];done)
theorem ij (f:Nat):∀p,(fun p:(Pr)×Unit=>NT f p.1) p→∀q,some q∈(fun p:(Pr)×Unit=>HK f p.1) p→∀r∈q.2,∀c∈r,c.names=[]:=by intro p _;exact Fg _
noncomputable def XV {X:Ctx} {w0:World} (f:Nat) (h:XU f):Sy.Spec Try.prog X w0:=CY 88 Try.call88 (Jo) (fun p:(Pr)×Unit=>NT f p.1) (fun p:(Pr)×Unit=>Jn f p.1) (fun p:(Pr)×Unit=>HK f p.1) (ig f) (ii f) (ij f) h
attribute[local go_sem] Tok.r Ad Ai AS Ah Ag AQ ptR Af AR Ac CV K7 Q3 Cv Hq AC AU AH A8 AM A7 Ij AG Aw AN in
theorem ph (f:Nat) (hu:Mb f):XU f:=by
 rintro ⟨p,_u⟩ w M I lab fz xs hc hA hl hx
 refine Am Try.func88 rfl ((Jo).mem ⟨p,_u⟩) w M I lab fz [AU,AC,AM,(Q3 f (ZY f hu))] [] ((Jo).args 0 ⟨p,_u⟩) ((fun p:(Pr)×Unit=>HK f p.1) ⟨p,_u⟩) ((fun p:(Pr)×Unit=>Jn f p.1) ⟨p,_u⟩) xs hA hl hx (fun v hv k hk=>by have:=(Jo).an 0 ⟨p,_u⟩ v hv k hk;omega) (jN rfl) (jN rfl) ?_
 clear hx hl hA xs
 simp only[Try.f88]
 obtain⟨hc1,hc2⟩:=hc
 dsimp only at hc1 hc2
 have hI:=hc1.i
 cases i0:isT [123] p with
 |false=>
  have hr:blkW (C0 f) p=([],CI 51 p):=by simp[blkW,i0]
  simp only[↓eB,seval,go_sem,i0]
  try simp only[A2,A3]
  repeat' first|exact ck|with_reducible apply And.intro|intro _
  all_goals first|exact hI|exact hc1|(rename_i h;first|exact oI h|exact nah h)|(rename_i _ h _ g;exact sL h g)|decide|omega|(refine A0 [] ?_;simp only[↓eB,seval,go_sem,bne,Jn,HK,hr,arS,smS])
 |true=>
 cases ob:Et p with
 |false=>
  have hr:blkW (C0 f) p=([],Bl p):=by simp[blkW,i0,ob]
  simp only[↓eB,seval,go_sem,i0,ob]
  try simp only[A2,A3]
  repeat' first|exact ck|with_reducible apply And.intro|intro _
  all_goals first|exact hI|exact hc1|(rename_i h;first|exact oI h|exact nah h)|(rename_i _ h _ g;exact sL h g)|decide|omega|(refine A0 [] ?_;simp only[↓eB,seval,go_sem,bne,Jn,HK,hr,arS,smS])
 |true=>
  have hr:blkW (C0 f) p=((stmtsW (C0 f) (adv (Bl p))).1,shut (stmtsW (C0 f) (adv (Bl p))).2):=by simp[blkW,i0,ob]
  have ha:=Fb hc1 ob (B8 i0).2
  have hd:=X4 hc1 ob hc2
  simp only[↓eB,seval,go_sem,i0,ob]
  try simp only[A2,A3]
  repeat' first|exact ck|with_reducible apply And.intro|intro _
  all_goals first|exact hI|exact hc1|exact ha.ok|exact hd|(rename_i h;first|exact oI h|exact nah h)|(rename_i _ h _ g;exact sL h g)|decide|omega|(refine A0 [] ?_;simp only[↓eB,seval,go_sem,bne,Jn,HK,hr,arS,smS,shut,adv])
end Go.Proofs.Ytjnnmindcbgjhaa
