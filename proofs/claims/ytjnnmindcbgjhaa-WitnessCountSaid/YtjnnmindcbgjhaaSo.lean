/- A statement's row while it is read. No conditions but those in each statement. -/
import Derived.Test.YtjnnmindcbgjhaaAt
import Derived.Test.YtjnnmindcbgjhaaPn
set_option linter.unusedVariables false
set_option linter.unusedSimpArgs false
set_option maxRecDepth 20000
set_option maxHeartbeats 8000000
namespace Go.Proofs.Ytjnnmindcbgjhaa
open Go Go.Sy Go.RowKit
abbrev arS (l:List Ar):C:=.d (.sl zAr (l.map Ar.r))
def arO:Option (List Ar)→C
 |none=>.v (.slice none 0 0)
 |some l=>arS l
structure Sf where
 x:List UInt8
 no:Int
def Sf.c (s:Sf):List C:=[.v (.int .i64 0),.v (.string (bs s.x)),.v (.string (bs [])),.v (.pointer none),.v (.pointer none),.v (.pointer none),.v (.slice none 0 0),.v (.slice none 0 0),.v (.slice none 0 0),.v (.int .i64 s.no)]
def OQ (s:Sf) (v:VR):List C:=[.v (.int .i64 v.k),.v (.string (bs s.x)),.v (.string (bs v.y)),exC v.e,.v (.pointer none),.v (.pointer none),arO v.a,.v (.slice none 0 0),.v (.slice none 0 0),.v (.int .i64 s.no)]
theorem A1L (s:Sf):∀c∈s.c,c.names=[]:=by
 intro c hc
 simp only[Sf.c,List.mem_cons,List.not_mem_nil,or_false]at hc
 rcases hc with rfl|rfl|rfl|rfl|rfl|rfl|rfl|rfl|rfl|rfl<;>rfl
theorem CC (o:Option (List Ar)):(arO o).names=[]:=by cases o<;>rfl
theorem Ct (o:Option (List Ar)):C.stor (arO o)=true:=by cases o<;>rfl
theorem Cu (o:Option (List Ar)):Dm (arO o)=true:=by cases o<;>rfl
theorem DI (k u:Nat) (p:List (Nat×Nat)) (i j:Nat) (o:Option (List Ar)) (r:List C):ldc k u p i j (arO o::r)=arO o::ldc k u p i (j+1) r:=by cases o<;>rfl
theorem JP (o:Option (List Ar)):leC (arO o) (.d (.sl zAr ((o.getD []).map Ar.r)))=True:=by
 cases o with
 |none=>exact Gg _
 |some l=>exact Fi _
theorem NW:arO none= .v (.slice none 0 0):=rfl
theorem gq (l:List Ar):arO (some l)= .d (.sl zAr (l.map Ar.r)):=rfl
theorem vJ (a b:Sf) (h:a.c=b.c):a=b:=by
 obtain⟨x,no⟩:=a
 obtain⟨x',no'⟩:=b
 simp only[Sf.c,List.cons.injEq,C.v.injEq,Value.int.injEq,Value.string.injEq,true_and,and_true]at h
 rw[bs_inj h.1,h.2]
noncomputable def mSf:RowM Sf:=Lt zSc Sf.c A1L
theorem kD:mSf.z=zSc:=rfl
theorem kE:mSf.e=Sf.c:=rfl
theorem A1M (x:List UInt8) (no:Int):mSf.d [.v (.int .i64 0),.v (.string (bs x)),.v (.string (bs [])),.v (.pointer none),.v (.pointer none),.v (.pointer none),.v (.slice none 0 0),.v (.slice none 0 0),.v (.slice none 0 0),.v (.int .i64 no)]=some ⟨x,no⟩:=HC vJ ⟨x,no⟩
end Go.Proofs.Ytjnnmindcbgjhaa
namespace Go.Proofs.Ytjnnmindcbgjhaa
open Go Go.Sy Go.RowKit
abbrev PU (p:Pr):Prop:=okP p
abbrev LU (p:Pr):SV:=.one (arS (I6 p).1)
abbrev J5 (p:Pr):List (Option MV):=[some (zPr,[(I6 p).2.c])]
noncomputable abbrev LV:ArgM ((Pr)×Unit):=(amP (mPr) am0)
abbrev oH:Prop:=Bs Try.prog 89 ((LV).args 0) (LV).mem (fun p:(Pr)×Unit=>PU p.1) (fun p:(Pr)×Unit=>LU p.1) (fun p:(Pr)×Unit=>J5 p.1)
theorem oJ:∀p,(fun p:(Pr)×Unit=>PU p.1) p→Co ((LV).mem p).length ((fun p:(Pr)×Unit=>J5 p.1) p)=true:=by intro p _;rfl
theorem oL:∀p,(fun p:(Pr)×Unit=>PU p.1) p→Au ((fun p:(Pr)×Unit=>J5 p.1) p).length ((fun p:(Pr)×Unit=>LU p.1) p)=true:=by intro p _;first|rfl|exact AO _ _|exact AP _ _|(simp[Au,C0,AO,AP];done)
theorem oM:∀p,(fun p:(Pr)×Unit=>PU p.1) p→∀q,some q∈(fun p:(Pr)×Unit=>J5 p.1) p→∀r∈q.2,∀c∈r,c.names=[]:=by intro p _;exact Fg _
attribute [local go_sem] Pr.c zTk
theorem vK:oH:=by
 rintro ⟨p,_u⟩ w M I lab fz xs hc hA hl hx
 refine Am Try.func89 rfl ((LV).mem ⟨p,_u⟩) w M I lab fz [A7,AG,Ug] [] ((LV).args 0 ⟨p,_u⟩) ((fun p:(Pr)×Unit=>J5 p.1) ⟨p,_u⟩) ((fun p:(Pr)×Unit=>LU p.1) ⟨p,_u⟩) xs hA hl hx (fun v hv k hk=>by have:=(LV).an 0 ⟨p,_u⟩ v hv k hk;omega) (jN rfl) (jN rfl) ?_
 clear hx hl hA xs
 simp only[Try.f89]
 have hc1:okP p:=hc
 cases i0:isT [41] p with
 |true=>
  have hr:I6 p=([],adv p):=by simp[I6,i0]
  simp only[↓eB,seval,go_sem,AU,Aw,A8,AN,AM,AC,AG,AH,A7,Cv,CW,Ah,Ag,Ai,Ac,Tok.r,Ad,ptR,Af,AS,AR,AQ,i0,BD]
  try simp only[A2,A3]
  repeat' first|exact ck|with_reducible apply And.intro|intro _
  all_goals first|exact hc1|(rename_i h;first|exact oI h|exact nah h)|(rename_i _ h _ g;exact sL h g)|decide|omega|(refine A0 [] ?_;simp only[↓eB,seval,go_sem,bne,LU,J5,hr,arS,adv])
 |false=>
 have hr:I6 p=Qr (p.l.length+1) [] p:=by simp[I6,i0]
 simp only[↓eB,seval,go_sem,AU,Aw,A8,AN,AM,AC,AG,AH,A7,Cv,CW,Ah,Ag,Ai,Ac,Tok.r,Ad,ptR,Af,AS,AR,AQ,i0,BD]
 refine⟨hc1,?_⟩
 refine Aa (Y:=Nat×List Ar×Pr) (fun y=>okP y.2.2∧(y.2.2.e=0→(y.2.2.l.length:Int)+1≤y.2.2.i+(y.1:Int))∧(y.2.2.e=0→(y.2.1.length:Int)≤y.2.2.i)∧Qr y.1 y.2.1 y.2.2=I6 p)
  (fun y=>⟨[(0,true,.one (.p 0 0 0)),(3,true,.one (.s 1000))],[(0,.vec 0 zPr [y.2.2.c]),(1000,.vec 0 zAc (y.2.1.map Ar.c))]⟩)
  (fun y=>y.1) (p.l.length+1,[],p) ⟨hc1,fun _=>by have:=hc1.1;simp only;omega,fun _=>by simpa using hc1.1,hr.symm⟩ ?_ ?_
 ·refine A4 [.nil 3 1000 zAc] ?_;simp only[↓eB,seval,go_sem,zAc]
 ·rintro ⟨k,l,q⟩ ⟨h1,h2,h3,h4⟩
  refine Ap [A7,AG,Ug] [] _ _ _ ?_
  dsimp only at h1 h2 h3 h4
  cases he:(q.e==0) with
  |false=>
   have hr2:I6 p=([],q):=by rw[← h4];cases k<;>simp[Qr,he]
   simp only[↓eB,seval,go_sem,AU,Aw,A8,AN,AM,AC,AG,AH,A7,Cv,CW,Ah,Ag,Ai,Ac,Tok.r,Ad,ptR,Af,AS,AR,AQ,he]
   try simp only[A2,A3]
   repeat' first|exact ck|with_reducible apply And.intro|intro _
   all_goals first|exact h1|(rename_i h;first|exact oI h|exact nah h)|(rename_i _ h _ g;exact sL h g)|decide|omega|(refine A0 [] ?_;simp only[↓eB,seval,go_sem,bne,LU,J5,hr2,arS])
  |true=>
   have he0:q.e=0:=by simpa using he
   obtain⟨k',rfl⟩:∃k',k=k'+1:=⟨k-1,by have:=h2 he0;have:=h1.2.1;omega⟩
   simp only[Qr,he,if_true]at h4
   have hs:=E7 h1
   have hle:l.length≤4096:=by have:=h3 he0;have:=h1.2.1;have:=h1.2.2.1;omega
   have hd:=L7 h1
   cases it:isT [41] (exS q).2 with
   |true=>
    rw[if_pos it]at h4
    have hb:=B8 hs.ok it
    simp only[↓eB,seval,go_sem,AU,Aw,A8,AN,AM,AC,AG,AH,A7,Cv,CW,Ah,Ag,Ai,Ac,Tok.r,Ad,ptR,Af,AS,AR,AQ,he,it,BD,adv,zAc,H8.fn]
    try simp only[A2,A3]
    repeat' first|exact ck|with_reducible apply And.intro|intro _
    all_goals first|exact h1|exact hd|exact hs.ok|(rename_i h;first|exact oI h|exact nah h)|(rename_i _ h _ g;exact sL h g)|decide|omega|(refine A0 [.fz 16] ?_;simp only[↓eB,seval,go_sem,bne,LU,J5,← h4,arS,adv,zAr,H8.ds1,List.map_append,Ar.r])
   |false=>
    rw[if_neg (by rw[it];decide)]at h4
    have hw:=BI (t:=[44]) hs.ok
    simp only[↓eB,seval,go_sem,AU,Aw,A8,AN,AM,AC,AG,AH,A7,Cv,CW,Ah,Ag,Ai,Ac,Tok.r,Ad,ptR,Af,AS,AR,AQ,he,it,BD,zAc,H8.fn]
    try simp only[A2,A3]
    repeat' first|exact ck|with_reducible apply And.intro|intro _
    all_goals try first|exact h1|exact hd|exact hs.ok|(rename_i h;first|exact oI h|exact nah h)|(rename_i _ h _ g;exact sL h g)|decide|omega
    refine⟨(k',l++[⟨false,[],(exS q).1⟩],B3 [44] (exS q).2),⟨hw.ok,?_,?_,h4⟩,Nat.lt_succ_self _,
     Bz (t:=⟨[(0,true,.one (.p 0 0 0)),(3,true,.one (.s 16))],[(0,.vec 0 zPr [(B3 [44] (exS q).2).c]),(16,.vec 0 zAc ((l++[(⟨false,[],(exS q).1⟩:Ar)]).map Ar.c))]⟩) (A4 [] ?_) (A4 [.mv 16 1000] ?_)⟩
    ·exact fun hw0=>by have h5:=h2 he0;have hi1:=hs.i;have e:=TY hs.ok hw0;dsimp only;rw[hw.l,hs.l];omega
    ·exact fun hw0=>by have h5:=h3 he0;have hi1:=hs.i;have e:=TY hs.ok hw0;simp only[jL3];omega
    ·simp only[↓eB,seval,go_sem,zAc,H8.fn,List.flatMap_append,List.map_append,Ar.c]
    ·simp only[↓eB,seval,go_sem,zAc,H8.fn,H8.mv]
noncomputable def Hu {X:Ctx} {w0:World}:Sy.Spec Try.prog X w0:=Ca 89 Try.call89 (LV) (fun p:(Pr)×Unit=>PU p.1) (fun p:(Pr)×Unit=>LU p.1) (fun p:(Pr)×Unit=>J5 p.1) oJ oL oM vK
end Go.Proofs.Ytjnnmindcbgjhaa
namespace Go.Proofs.Ytjnnmindcbgjhaa
open Go Go.Sy Go.RowKit
theorem oN (p:Pr) (s:Sf) (v:VR):∀q,some q∈[some ((zPr,[p.c]):MV),some ((zSc,[OQ s v]):MV)]→∀r∈q.2,∀c∈r,c.names=[]:=by
 intro q hq r hr c hc
 simp only[List.mem_cons,List.not_mem_nil,or_false,jS]at hq
 rcases hq with rfl|rfl
 ·simp only[List.mem_singleton]at hr;subst hr;exact TF p c hc
 ·simp only[List.mem_singleton]at hr;subst hr
  simp only[OQ,List.mem_cons,List.not_mem_nil,or_false]at hc
  rcases hc with rfl|rfl|rfl|rfl|rfl|rfl|rfl|rfl|rfl|rfl<;>first|rfl|exact Ff _|exact CC _
abbrev NX (p:Pr) (s:Sf):Prop:=okP p
abbrev GT (p:Pr) (s:Sf):SV:=.tup []
abbrev FC (p:Pr) (s:Sf):List (Option MV):=[some (zPr,[(Ep p).2.c]),some (zSc,[OQ s (Ep p).1])]
noncomputable abbrev Jp:ArgM ((Pr)×(Sf)×Unit):=(amP (mPr) (amP (mSf) am0))
abbrev gr:Prop:=Bs Try.prog 90 ((Jp).args 0) (Jp).mem (fun p:(Pr)×(Sf)×Unit=>NX p.1 p.2.1) (fun p:(Pr)×(Sf)×Unit=>GT p.1 p.2.1) (fun p:(Pr)×(Sf)×Unit=>FC p.1 p.2.1)
theorem gu:∀p,(fun p:(Pr)×(Sf)×Unit=>NX p.1 p.2.1) p→Co ((Jp).mem p).length ((fun p:(Pr)×(Sf)×Unit=>FC p.1 p.2.1) p)=true:=by intro p _;rfl
theorem gv:∀p,(fun p:(Pr)×(Sf)×Unit=>NX p.1 p.2.1) p→Au ((fun p:(Pr)×(Sf)×Unit=>FC p.1 p.2.1) p).length ((fun p:(Pr)×(Sf)×Unit=>GT p.1 p.2.1) p)=true:=by intro p _;first|rfl|exact AO _ _|exact AP _ _|(simp[Au,C0,AO,AP];done)
theorem gx:∀p,(fun p:(Pr)×(Sf)×Unit=>NX p.1 p.2.1) p→∀q,some q∈(fun p:(Pr)×(Sf)×Unit=>FC p.1 p.2.1) p→∀r∈q.2,∀c∈r,c.names=[]:=by intro p _;exact oN _ _ _
attribute [local go_sem] Pr.c Sf.c Tok.r Ad Ai AS Ah Ag kE kD AQ ptR Af AR BD Ac CW Cv Hu AC AU AH A8 AM A7 AG Aw AN zTk
theorem oO:gr:=by
 rintro ⟨p,s,_u⟩ w M I lab fz xs hc hA hl hx
 refine Am Try.func90 rfl ((Jp).mem ⟨p,s,_u⟩) w M I lab fz [A7,A8,AH,AG,Hu,Ug] [] ((Jp).args 0 ⟨p,s,_u⟩) ((fun p:(Pr)×(Sf)×Unit=>FC p.1 p.2.1) ⟨p,s,_u⟩) ((fun p:(Pr)×(Sf)×Unit=>GT p.1 p.2.1) ⟨p,s,_u⟩) xs hA hl hx (fun v hv k hk=>by have:=(Jp).an 0 ⟨p,s,_u⟩ v hv k hk;omega) (jN rfl) (jN rfl) ?_
 clear hx hl hA xs
 simp only[Try.f90]
 have hc1:okP p:=hc
 have hI:=hc1.i
 have hdp:=L7 hc1
 cases i0:isT jT p with
 |true=>
  have hr:Ep p=(⟨3,[],.nil,none⟩,adv p):=by simp[Ep,i0]
  simp only[↓eB,seval,go_sem,i0]
  try simp only[A2,A3]
  repeat' first|exact ck|with_reducible apply And.intro|intro _
  all_goals first|exact hI|exact hc1|(rename_i h;first|exact oI h|exact nah h)|(rename_i _ h _ g;exact sL h g)|decide|omega|(refine A0 [] ?_;simp only[↓eB,seval,go_sem,bne,GT,FC,hr,arS,adv,OQ,NW,AY,zSc])
 |false=>
 cases i1:isT [38] p with
 |true=>
  have hr:Ep p=(⟨1,Cz (adv p),.nil,none⟩,BX (adv p)):=by simp[Ep,i0,i1]
  have ha:=B8 hc1 i1
  simp only[↓eB,seval,go_sem,i0,i1,adv]
  try simp only[A2,A3]
  repeat' first|exact ck|with_reducible apply And.intro|intro _
  all_goals first|exact hI|exact hc1|exact ha.ok|(rename_i h;first|exact oI h|exact nah h)|(rename_i _ h _ g;exact sL h g)|decide|omega|(refine A0 [] ?_;simp only[↓eB,seval,go_sem,bne,GT,FC,hr,arS,adv,OQ,NW,AY,zSc])
 |false=>
 cases i2:isT [42] p with
 |true=>
  have hr:Ep p=(⟨4,Cz (adv p),.nil,none⟩,BX (adv p)):=by simp[Ep,i0,i1,i2]
  have ha:=B8 hc1 i2
  simp only[↓eB,seval,go_sem,i0,i1,i2,adv]
  try simp only[A2,A3]
  repeat' first|exact ck|with_reducible apply And.intro|intro _
  all_goals first|exact hI|exact hc1|exact ha.ok|(rename_i h;first|exact oI h|exact nah h)|(rename_i _ h _ g;exact sL h g)|decide|omega|(refine A0 [] ?_;simp only[↓eB,seval,go_sem,bne,GT,FC,hr,arS,adv,OQ,NW,AY,zSc])
 |false=>
 have n5:IntKind.i64.wrap (p.i+1)=p.i+1:=by obtain⟨h1,h2,h3,_⟩:=hc1;exact wrap_i64 (by omega) (by omega)
 have q0:(0≤p.i+1)=True:=by have:=hc1.1;simp;omega
 cases i3:ahB [91] p with
 |true=>
  have hr:Ep p=(⟨6,Cz p,(exS (adv (BX p))).1,none⟩,B3 [93] (exS (adv (BX p))).2):=by simp[Ep,i0,i1,i2,i3]
  obtain⟨hna,z1,_,z2⟩:=Zp hc1 i3
  have z0:decide (p.i+1<(p.l.length:Int))=true:=by simp[z1]
  have z0':(p.i+1<(p.l.length:Int))=True:=by simp[z1]
  have ha:=be hc1 i3
  have hs:=E7 ha.ok
  have hd:=L7 ha.ok
  simp only[↓eB,seval,go_sem,i0,i1,i2,hna,n5,q0,z0,z0',z2]
  try simp only[A2,A3]
  repeat' first|exact ck|with_reducible apply And.intro|intro _
  all_goals first|exact hI|exact hc1|exact ha.ok|exact hs.ok|exact hd|(rename_i h;first|exact oI h|exact nah h)|(rename_i _ h _ g;exact sL h g)|decide|omega|(refine A0 [] ?_;simp only[↓eB,seval,go_sem,bne,GT,FC,hr,arS,adv,OQ,NW,AY,zSc])
 |false=>
 have g3:=i3
 unfold ahB tkA at g3
 simp only[w64i,n5]at g3
 cases i4:ahB [40] p with
 |true=>
  have hr:Ep p=(⟨8,Cz p,.nil,some (I6 (adv (BX p))).1⟩,(I6 (adv (BX p))).2):=by simp[Ep,i0,i1,i2,i3,i4]
  obtain⟨hna,z1,_,z2⟩:=Zp hc1 i4
  have z0:decide (p.i+1<(p.l.length:Int))=true:=by simp[z1]
  have z0':(p.i+1<(p.l.length:Int))=True:=by simp[z1]
  have z3:((p.l.getD (p.i+1).toNat tk0).t==[91])=false:=by rw[hna,z0]at g3;simpa using g3
  have ha:=be hc1 i4
  simp only[↓eB,seval,go_sem,i0,i1,i2,hna,n5,q0,z0,z0',z2,z3]
  try simp only[A2,A3]
  repeat' first|exact ck|with_reducible apply And.intro|intro _
  all_goals first|exact hI|exact hc1|exact ha.ok|(rename_i h;first|exact oI h|exact nah h)|(rename_i _ h _ g;exact sL h g)|decide|omega|(refine A0 [] ?_;simp only[↓eB,seval,go_sem,bne,GT,FC,hr,arS,adv,OQ,gq,AY,zSc])
 |false=>
 have hr:Ep p=(⟨0,[],(exS p).1,none⟩,(exS p).2):=by simp[Ep,i0,i1,i2,i3,i4]
 have g4:=i4
 unfold ahB tkA at g4
 simp only[w64i,n5]at g4
 simp only[↓eB,seval,go_sem,i0,i1,i2,g3,g4,n5,q0]
 try simp only[A2,A3]
 repeat' first|exact ck|with_reducible apply And.intro|intro _
 all_goals first|exact hI|exact hc1|exact hdp|(assumption)|(simp only[Bool.and_eq_true,decide_eq_true_eq]at *;omega)|(rename_i h;first|exact oI h|exact nah h)|(rename_i _ h _ g;exact sL h g)|decide|omega|(refine A0 [] ?_;simp only[↓eB,seval,go_sem,bne,GT,FC,hr,arS,adv,OQ,NW,AY,zSc])
noncomputable def Ij {X:Ctx} {w0:World}:Sy.Spec Try.prog X w0:=Ca 90 Try.call90 (Jp) (fun p:(Pr)×(Sf)×Unit=>NX p.1 p.2.1) (fun p:(Pr)×(Sf)×Unit=>GT p.1 p.2.1) (fun p:(Pr)×(Sf)×Unit=>FC p.1 p.2.1) gu gv gx oO
end Go.Proofs.Ytjnnmindcbgjhaa
namespace Go.Proofs.Ytjnnmindcbgjhaa
open Go Go.Sy Go.RowKit
abbrev smS (l:List Sm):C:=.d (.sl zSm (l.map Sm.r))
theorem vL (n:Nat) (s:Sm):Au n (.agg s.c)=true:=by
 show s.c.all (C0 n)=true
 unfold Sm.c
 simp only[List.all_cons,List.all_nil,AO,AP,Bool.and_true]
 rfl
end Go.Proofs.Ytjnnmindcbgjhaa
