/- A statement's row while it is read. No conditions but those in each statement. -/
import Derived.Test.YtjnnmindcbgjhaaAt
import Derived.Test.YtjnnmindcbgjhaaPn
set_option linter.unusedVariables false
set_option linter.unusedSimpArgs false
set_option maxRecDepth 20000
set_option maxHeartbeats 8000000
open List (map_append)
namespace Go.Proofs.Ytjnnmindcbgjhaa
open Go Go.Sy Go.RowKit
abbrev arS (l:List Ar):C:=.d (.sl zAr (l.map Ar.r))
def arO:Option (List Ar)→C
 |none=>.v (.slice none 0 0)
 |some l=>arS l
structure Sf where
 x:List UInt8
 no:Int
def Sf.c (s:Sf):List C:=[.v (.int .i64 0),.v (.string (bs s.x)),.v (.string (bs [])),.v (.pointer none),.v (.pointer none),.v (.pointer none),.v (.slice none 0 0),.v (.slice none 0 0),.v (.slice none 0 0),.v (.int .i64 s.no)]
def OV (s:Sf) (v:VR):List C:=[.v (.int .i64 v.k),.v (.string (bs s.x)),.v (.string (bs v.y)),exC v.e,.v (.pointer none),.v (.pointer none),arO v.a,.v (.slice none 0 0),.v (.slice none 0 0),.v (.int .i64 s.no)]
theorem A1t (s:Sf):∀c∈s.c,c.names=[]:=by
 intro c hc
 simp only[Sf.c,List.mem_cons,List.not_mem_nil,or_false]at hc
 rcases hc with rfl|rfl|rfl|rfl|rfl|rfl|rfl|rfl|rfl|rfl<;>rfl
theorem CE (o:Option (List Ar)):(arO o).names=[]:=by cases o<;>rfl
theorem Cr (o:Option (List Ar)):C.stor (arO o)=true:=by cases o<;>rfl
theorem Cs (o:Option (List Ar)):Dn (arO o)=true:=by cases o<;>rfl
theorem DI (k u:Nat) (p:List (Nat×Nat)) (i j:Nat) (o:Option (List Ar)) (r:List C):ldc k u p i j (arO o::r)=arO o::ldc k u p i (j+1) r:=by cases o<;>rfl
theorem Jb (o:Option (List Ar)):leC (arO o) (.d (.sl zAr ((o.getD []).map Ar.r)))=True:=by
 cases o with
 |none=>exact H9 _
 |some l=>exact Fx _
theorem Nn:arO none= .v (.slice none 0 0):=rfl
theorem iy (l:List Ar):arO (some l)= .d (.sl zAr (l.map Ar.r)):=rfl
theorem we (a b:Sf) (h:a.c=b.c):a=b:=by
 obtain⟨x,no⟩:=a
 obtain⟨x',no'⟩:=b
 simp only[Sf.c,List.cons.injEq,C.v.injEq,Value.int.injEq,Value.string.injEq,true_and,and_true]at h
 rw[bs_inj h.1,h.2]
noncomputable def mSf:RowM Sf:=MD zSc Sf.c A1t
theorem lO:mSf.z=zSc:=rfl
theorem lP:mSf.e=Sf.c:=rfl
theorem A1u (x:List UInt8) (no:Int):mSf.d [.v (.int .i64 0),.v (.string (bs x)),.v (.string (bs [])),.v (.pointer none),.v (.pointer none),.v (.pointer none),.v (.slice none 0 0),.v (.slice none 0 0),.v (.slice none 0 0),.v (.int .i64 no)]=some ⟨x,no⟩:=Hc we ⟨x,no⟩
end Go.Proofs.Ytjnnmindcbgjhaa
namespace Go.Proofs.Ytjnnmindcbgjhaa
open Go Go.Sy Go.RowKit
abbrev Pb (p:Pr):Prop:=okP p
abbrev Li (p:Pr):SV:=.one (arS (H4 p).1)
abbrev JH (p:Pr):List (Option MV):=[some (zPr,[(H4 p).2.c])]
noncomputable abbrev Lj:ArgM ((Pr)×Unit):=(amP (mPr) am0)
abbrev pw:Prop:=Bt Try.prog 89 ((Lj).args 0) (Lj).mem (fun p:(Pr)×Unit=>Pb p.1) (fun p:(Pr)×Unit=>Li p.1) (fun p:(Pr)×Unit=>JH p.1)
theorem px:∀p,(fun p:(Pr)×Unit=>Pb p.1) p→Cn ((Lj).mem p).length ((fun p:(Pr)×Unit=>JH p.1) p)=true:=by intro p _;rfl
theorem py:∀p,(fun p:(Pr)×Unit=>Pb p.1) p→Av ((fun p:(Pr)×Unit=>JH p.1) p).length ((fun p:(Pr)×Unit=>Li p.1) p)=true:=by intro p _;first|rfl|exact AO _ _|exact AP _ _|(simp[Av,C0,AO,AP];done)
theorem pz:∀p,(fun p:(Pr)×Unit=>Pb p.1) p→∀q,some q∈(fun p:(Pr)×Unit=>JH p.1) p→∀r∈q.2,∀c∈r,c.names=[]:=by intro p _;exact Fq _
attribute [local go_sem] Pr.c zTk
theorem wg:pw:=by
 rintro ⟨p,_u⟩ w M I lab fz xs hc hA hl hx
 refine An Try.func89 rfl ((Lj).mem ⟨p,_u⟩) w M I lab fz [A7,AG,V0] [] ((Lj).args 0 ⟨p,_u⟩) ((fun p:(Pr)×Unit=>JH p.1) ⟨p,_u⟩) ((fun p:(Pr)×Unit=>Li p.1) ⟨p,_u⟩) xs hA hl hx (fun v hv k hk=>by have:=(Lj).an 0 ⟨p,_u⟩ v hv k hk;omega) (jN rfl) (jN rfl) ?_
 clear hx hl hA xs
 simp only[Try.f89]
 have hc1:okP p:=hc
 cases i0:isT [41] p with
 |true=>
  have hr:H4 p=([],adv p):=by simp[H4,i0]
  simp only[↓eB,seval,go_sem,AV,Ay,A8,AN,AM,AC,AG,AH,A7,Cv,CW,Ah,Ag,Ai,Ac,Tok.r,Ad,ptR,Af,AS,AR,AQ,i0,BC]
  try simp only[A3,A4]
  repeat' first|exact ck|with_reducible apply And.intro|intro _
  all_goals first|exact hc1|(rename_i h;first|exact oI h|exact nah h)|(rename_i _ h _ g;exact sL h g)|decide|omega|(refine A0 [] ?_;simp only[↓eB,seval,go_sem,bne,Li,JH,hr,arS,adv])
 |false=>
 have hr:H4 p=NO (p.l.length+1) [] p:=by simp[H4,i0]
 simp only[↓eB,seval,go_sem,AV,Ay,A8,AN,AM,AC,AG,AH,A7,Cv,CW,Ah,Ag,Ai,Ac,Tok.r,Ad,ptR,Af,AS,AR,AQ,i0,BC]
 refine⟨hc1,?_⟩
 refine AU (Y:=Nat×List Ar×Pr) (fun y=>okP y.2.2∧(y.2.2.e=0→(y.2.2.l.length:Int)+1≤y.2.2.i+(y.1:Int))∧(y.2.2.e=0→(y.2.1.length:Int)≤y.2.2.i)∧NO y.1 y.2.1 y.2.2=H4 p)
  (fun y=>⟨[(0,true,.one (.p 0 0 0)),(3,true,.one (.s 1000))],[(0,.vec 0 zPr [y.2.2.c]),(1000,.vec 0 zAc (y.2.1.map Ar.c))]⟩)
  (fun y=>y.1) (p.l.length+1,[],p) ⟨hc1,fun _=>by have:=hc1.1;simp only;omega,fun _=>by simpa using hc1.1,hr.symm⟩ ?_ ?_
 ·refine A2 [.nil 3 1000 zAc] ?_;simp only[↓eB,seval,go_sem,zAc]
 ·rintro ⟨k,l,q⟩ ⟨h1,h2,h3,h4⟩
  refine Ak [A7,AG,V0] [] _ _ _ ?_
  dsimp only at h1 h2 h3 h4
  cases he:(q.e==0) with
  |false=>
   have hr2:H4 p=([],q):=by rw[← h4];cases k<;>simp[NO,he]
   simp only[↓eB,seval,go_sem,AV,Ay,A8,AN,AM,AC,AG,AH,A7,Cv,CW,Ah,Ag,Ai,Ac,Tok.r,Ad,ptR,Af,AS,AR,AQ,he]
   try simp only[A3,A4]
   repeat' first|exact ck|with_reducible apply And.intro|intro _
   all_goals first|exact h1|(rename_i h;first|exact oI h|exact nah h)|(rename_i _ h _ g;exact sL h g)|decide|omega|(refine A0 [] ?_;simp only[↓eB,seval,go_sem,bne,Li,JH,hr2,arS])
  |true=>
   have he0:q.e=0:=by simpa using he
   obtain⟨k',rfl⟩:∃k',k=k'+1:=⟨k-1,by have:=h2 he0;have:=h1.2.1;omega⟩
   simp only[NO,he,if_true]at h4
   have hs:=E8 h1
   have hle:l.length≤4096:=by have:=h3 he0;have:=h1.2.1;have:=h1.2.2.1;omega
   have hd:=LL h1
   cases it:isT [41] (exS q).2 with
   |true=>
    rw[if_pos it]at h4
    have hb:=B7 hs.ok it
    simp only[↓eB,seval,go_sem,AV,Ay,A8,AN,AM,AC,AG,AH,A7,Cv,CW,Ah,Ag,Ai,Ac,Tok.r,Ad,ptR,Af,AS,AR,AQ,he,it,BC,adv,zAc,HO.fn]
    try simp only[A3,A4]
    repeat' first|exact ck|with_reducible apply And.intro|intro _
    all_goals first|exact h1|exact hd|exact hs.ok|(rename_i h;first|exact oI h|exact nah h)|(rename_i _ h _ g;exact sL h g)|decide|omega|(refine A0 [.fz 16] ?_;simp only[↓eB,seval,go_sem,bne,Li,JH,← h4,arS,adv,zAr,HO.ds1,map_append,Ar.r])
   |false=>
    rw[if_neg (by rw[it];decide)]at h4
    have hw:=BE (t:=[44]) hs.ok
    simp only[↓eB,seval,go_sem,AV,Ay,A8,AN,AM,AC,AG,AH,A7,Cv,CW,Ah,Ag,Ai,Ac,Tok.r,Ad,ptR,Af,AS,AR,AQ,he,it,BC,zAc,HO.fn]
    try simp only[A3,A4]
    repeat' first|exact ck|with_reducible apply And.intro|intro _
    all_goals try first|exact h1|exact hd|exact hs.ok|(rename_i h;first|exact oI h|exact nah h)|(rename_i _ h _ g;exact sL h g)|decide|omega
    refine⟨(k',l++[⟨false,[],(exS q).1⟩],B2 [44] (exS q).2),⟨hw.ok,?_,?_,h4⟩,Nat.lt_succ_self _,
     BS (t:=⟨[(0,true,.one (.p 0 0 0)),(3,true,.one (.s 16))],[(0,.vec 0 zPr [(B2 [44] (exS q).2).c]),(16,.vec 0 zAc ((l++[(⟨false,[],(exS q).1⟩:Ar)]).map Ar.c))]⟩) (A2 [] ?_) (A2 [.mv 16 1000] ?_)⟩
    ·exact fun hw0=>by have h5:=h2 he0;have hi1:=hs.i;have e:=Tp hs.ok hw0;dsimp only;rw[hw.l,hs.l];omega
    ·exact fun hw0=>by have h5:=h3 he0;have hi1:=hs.i;have e:=Tp hs.ok hw0;simp only[jL3];omega
    ·simp only[↓eB,seval,go_sem,zAc,HO.fn,List.flatMap_append,map_append,Ar.c]
    ·simp only[↓eB,seval,go_sem,zAc,HO.fn,HO.mv]
noncomputable def IB {X:Ctx} {w0:World}:Sy.Spec Try.prog X w0:=Ca 89 Try.call89 (Lj) (fun p:(Pr)×Unit=>Pb p.1) (fun p:(Pr)×Unit=>Li p.1) (fun p:(Pr)×Unit=>JH p.1) px py pz wg
end Go.Proofs.Ytjnnmindcbgjhaa
namespace Go.Proofs.Ytjnnmindcbgjhaa
open Go Go.Sy Go.RowKit
theorem qA (p:Pr) (s:Sf) (v:VR):∀q,some q∈[some ((zPr,[p.c]):MV),some ((zSc,[OV s v]):MV)]→∀r∈q.2,∀c∈r,c.names=[]:=by
 intro q hq r hr c hc
 simp only[List.mem_cons,List.not_mem_nil,or_false,jS]at hq
 rcases hq with rfl|rfl
 ·simp only[List.mem_singleton]at hr;subst hr;exact TV p c hc
 ·simp only[List.mem_singleton]at hr;subst hr
  simp only[OV,List.mem_cons,List.not_mem_nil,or_false]at hc
  rcases hc with rfl|rfl|rfl|rfl|rfl|rfl|rfl|rfl|rfl|rfl<;>first|rfl|exact Fp _|exact CE _
abbrev Np (p:Pr) (s:Sf):Prop:=okP p
abbrev Ge (p:Pr) (s:Sf):SV:=.tup []
abbrev FF (p:Pr) (s:Sf):List (Option MV):=[some (zPr,[(EZ p).2.c]),some (zSc,[OV s (EZ p).1])]
noncomputable abbrev Jx:ArgM ((Pr)×(Sf)×Unit):=(amP (mPr) (amP (mSf) am0))
abbrev iz:Prop:=Bt Try.prog 90 ((Jx).args 0) (Jx).mem (fun p:(Pr)×(Sf)×Unit=>Np p.1 p.2.1) (fun p:(Pr)×(Sf)×Unit=>Ge p.1 p.2.1) (fun p:(Pr)×(Sf)×Unit=>FF p.1 p.2.1)
theorem j9:∀p,(fun p:(Pr)×(Sf)×Unit=>Np p.1 p.2.1) p→Cn ((Jx).mem p).length ((fun p:(Pr)×(Sf)×Unit=>FF p.1 p.2.1) p)=true:=by intro p _;rfl
theorem jA:∀p,(fun p:(Pr)×(Sf)×Unit=>Np p.1 p.2.1) p→Av ((fun p:(Pr)×(Sf)×Unit=>FF p.1 p.2.1) p).length ((fun p:(Pr)×(Sf)×Unit=>Ge p.1 p.2.1) p)=true:=by intro p _;first|rfl|exact AO _ _|exact AP _ _|(simp[Av,C0,AO,AP];done)
theorem jC:∀p,(fun p:(Pr)×(Sf)×Unit=>Np p.1 p.2.1) p→∀q,some q∈(fun p:(Pr)×(Sf)×Unit=>FF p.1 p.2.1) p→∀r∈q.2,∀c∈r,c.names=[]:=by intro p _;exact qA _ _ _
attribute [local go_sem] Pr.c Sf.c Tok.r Ad Ai AS Ah Ag lP lO AQ ptR Af AR BC Ac CW Cv IB AC AV AH A8 AM A7 AG Ay AN zTk
theorem qB:iz:=by
 rintro ⟨p,s,_u⟩ w M I lab fz xs hc hA hl hx
 refine An Try.func90 rfl ((Jx).mem ⟨p,s,_u⟩) w M I lab fz [A7,A8,AH,AG,IB,V0] [] ((Jx).args 0 ⟨p,s,_u⟩) ((fun p:(Pr)×(Sf)×Unit=>FF p.1 p.2.1) ⟨p,s,_u⟩) ((fun p:(Pr)×(Sf)×Unit=>Ge p.1 p.2.1) ⟨p,s,_u⟩) xs hA hl hx (fun v hv k hk=>by have:=(Jx).an 0 ⟨p,s,_u⟩ v hv k hk;omega) (jN rfl) (jN rfl) ?_
 clear hx hl hA xs
 simp only[Try.f90]
 have hc1:okP p:=hc
 have hI:=hc1.i
 have hdp:=LL hc1
 cases i0:isT kU p with
 |true=>
  have hr:EZ p=(⟨3,[],.nil,none⟩,adv p):=by simp[EZ,i0]
  simp only[↓eB,seval,go_sem,i0]
  try simp only[A3,A4]
  repeat' first|exact ck|with_reducible apply And.intro|intro _
  all_goals first|exact hI|exact hc1|(rename_i h;first|exact oI h|exact nah h)|(rename_i _ h _ g;exact sL h g)|decide|omega|(refine A0 [] ?_;simp only[↓eB,seval,go_sem,bne,Ge,FF,hr,arS,adv,OV,Nn,AZ,zSc])
 |false=>
 cases i1:isT [38] p with
 |true=>
  have hr:EZ p=(⟨1,Cz (adv p),.nil,none⟩,BX (adv p)):=by simp[EZ,i0,i1]
  have ha:=B7 hc1 i1
  simp only[↓eB,seval,go_sem,i0,i1,adv]
  try simp only[A3,A4]
  repeat' first|exact ck|with_reducible apply And.intro|intro _
  all_goals first|exact hI|exact hc1|exact ha.ok|(rename_i h;first|exact oI h|exact nah h)|(rename_i _ h _ g;exact sL h g)|decide|omega|(refine A0 [] ?_;simp only[↓eB,seval,go_sem,bne,Ge,FF,hr,arS,adv,OV,Nn,AZ,zSc])
 |false=>
 cases i2:isT [42] p with
 |true=>
  have hr:EZ p=(⟨4,Cz (adv p),.nil,none⟩,BX (adv p)):=by simp[EZ,i0,i1,i2]
  have ha:=B7 hc1 i2
  simp only[↓eB,seval,go_sem,i0,i1,i2,adv]
  try simp only[A3,A4]
  repeat' first|exact ck|with_reducible apply And.intro|intro _
  all_goals first|exact hI|exact hc1|exact ha.ok|(rename_i h;first|exact oI h|exact nah h)|(rename_i _ h _ g;exact sL h g)|decide|omega|(refine A0 [] ?_;simp only[↓eB,seval,go_sem,bne,Ge,FF,hr,arS,adv,OV,Nn,AZ,zSc])
 |false=>
 have n5:IntKind.i64.wrap (p.i+1)=p.i+1:=by obtain⟨h1,h2,h3,_⟩:=hc1;exact wrap_i64 (by omega) (by omega)
 have q0:(0≤p.i+1)=True:=by have:=hc1.1;simp;omega
 cases i3:ahB [91] p with
 |true=>
  have hr:EZ p=(⟨6,Cz p,(exS (adv (BX p))).1,none⟩,B2 [93] (exS (adv (BX p))).2):=by simp[EZ,i0,i1,i2,i3]
  obtain⟨hna,z1,_,z2⟩:=aR hc1 i3
  have z0:decide (p.i+1<(p.l.length:Int))=true:=by simp[z1]
  have z0':(p.i+1<(p.l.length:Int))=True:=by simp[z1]
  have ha:=Ww hc1 i3
  have hs:=E8 ha.ok
  have hd:=LL ha.ok
  simp only[↓eB,seval,go_sem,i0,i1,i2,hna,n5,q0,z0,z0',z2]
  try simp only[A3,A4]
  repeat' first|exact ck|with_reducible apply And.intro|intro _
  all_goals first|exact hI|exact hc1|exact ha.ok|exact hs.ok|exact hd|(rename_i h;first|exact oI h|exact nah h)|(rename_i _ h _ g;exact sL h g)|decide|omega|(refine A0 [] ?_;simp only[↓eB,seval,go_sem,bne,Ge,FF,hr,arS,adv,OV,Nn,AZ,zSc])
 |false=>
 have g3:=i3
 unfold ahB tkA at g3
 simp only[w64i,n5]at g3
 cases i4:ahB [40] p with
 |true=>
  have hr:EZ p=(⟨8,Cz p,.nil,some (H4 (adv (BX p))).1⟩,(H4 (adv (BX p))).2):=by simp[EZ,i0,i1,i2,i3,i4]
  obtain⟨hna,z1,_,z2⟩:=aR hc1 i4
  have z0:decide (p.i+1<(p.l.length:Int))=true:=by simp[z1]
  have z0':(p.i+1<(p.l.length:Int))=True:=by simp[z1]
  have z3:((p.l.getD (p.i+1).toNat tk0).t==[91])=false:=by rw[hna,z0]at g3;simpa using g3
  have ha:=Ww hc1 i4
  simp only[↓eB,seval,go_sem,i0,i1,i2,hna,n5,q0,z0,z0',z2,z3]
  try simp only[A3,A4]
  repeat' first|exact ck|with_reducible apply And.intro|intro _
  all_goals first|exact hI|exact hc1|exact ha.ok|(rename_i h;first|exact oI h|exact nah h)|(rename_i _ h _ g;exact sL h g)|decide|omega|(refine A0 [] ?_;simp only[↓eB,seval,go_sem,bne,Ge,FF,hr,arS,adv,OV,iy,AZ,zSc])
 |false=>
 have hr:EZ p=(⟨0,[],(exS p).1,none⟩,(exS p).2):=by simp[EZ,i0,i1,i2,i3,i4]
 have g4:=i4
 unfold ahB tkA at g4
 simp only[w64i,n5]at g4
 simp only[↓eB,seval,go_sem,i0,i1,i2,g3,g4,n5,q0]
 try simp only[A3,A4]
 repeat' first|exact ck|with_reducible apply And.intro|intro _
 all_goals first|exact hI|exact hc1|exact hdp|(assumption)|(simp only[Bool.and_eq_true,decide_eq_true_eq]at *;omega)|(rename_i h;first|exact oI h|exact nah h)|(rename_i _ h _ g;exact sL h g)|decide|omega|(refine A0 [] ?_;simp only[↓eB,seval,go_sem,bne,Ge,FF,hr,arS,adv,OV,Nn,AZ,zSc])
noncomputable def Iz {X:Ctx} {w0:World}:Sy.Spec Try.prog X w0:=Ca 90 Try.call90 (Jx) (fun p:(Pr)×(Sf)×Unit=>Np p.1 p.2.1) (fun p:(Pr)×(Sf)×Unit=>Ge p.1 p.2.1) (fun p:(Pr)×(Sf)×Unit=>FF p.1 p.2.1) j9 jA jC qB
end Go.Proofs.Ytjnnmindcbgjhaa
namespace Go.Proofs.Ytjnnmindcbgjhaa
open Go Go.Sy Go.RowKit
abbrev smS (l:List Sm):C:=.d (.sl zSm (l.map Sm.r))
theorem wh (n:Nat) (s:Sm):Av n (.agg s.c)=true:=by
 show s.c.all (C0 n)=true
 unfold Sm.c
 simp only[List.all_cons,List.all_nil,AO,AP,Bool.and_true]
 rfl
end Go.Proofs.Ytjnnmindcbgjhaa
namespace Go.Proofs.Ytjnnmindcbgjhaa
open Go Go.Sy Go.RowKit
abbrev Pc (f:Nat) (p:Pr):Prop:=okP p∧dpU f p
abbrev F8 (f:Nat) (p:Pr):SV:=.agg (C1 f p).1.c
abbrev ES (f:Nat) (p:Pr):List (Option MV):=[some (zPr,[(C1 f p).2.c])]
noncomputable abbrev Lk:ArgM ((Pr)×Unit):=(amP (mPr) am0)
abbrev Mw (f:Nat):Prop:=Bt Try.prog 77 ((Lk).args 0) (Lk).mem (fun p:(Pr)×Unit=>Pc f p.1) (fun p:(Pr)×Unit=>F8 f p.1) (fun p:(Pr)×Unit=>ES f p.1)
theorem qC (f:Nat):∀p,(fun p:(Pr)×Unit=>Pc f p.1) p→Cn ((Lk).mem p).length ((fun p:(Pr)×Unit=>ES f p.1) p)=true:=by intro p _;rfl
theorem qD (f:Nat):∀p,(fun p:(Pr)×Unit=>Pc f p.1) p→Av ((fun p:(Pr)×Unit=>ES f p.1) p).length ((fun p:(Pr)×Unit=>F8 f p.1) p)=true:=by intro p _;exact wh _ _
theorem qE (f:Nat):∀p,(fun p:(Pr)×Unit=>Pc f p.1) p→∀q,some q∈(fun p:(Pr)×Unit=>ES f p.1) p→∀r∈q.2,∀c∈r,c.names=[]:=by intro p _;exact Fq _
noncomputable def KK {X:Ctx} {w0:World} (f:Nat) (h:Mw f):Sy.Spec Try.prog X w0:=Ca 77 Try.call77 (Lk) (fun p:(Pr)×Unit=>Pc f p.1) (fun p:(Pr)×Unit=>F8 f p.1) (fun p:(Pr)×Unit=>ES f p.1) (qC f) (qD f) (qE f) h
abbrev Nq (f:Nat) (p:Pr):Prop:=okP p∧dpU f p
abbrev Jy (f:Nat) (p:Pr):SV:=.one (smS (stmtsW (C1 f) p).1)
abbrev Ha (f:Nat) (p:Pr):List (Option MV):=[some (zPr,[(stmtsW (C1 f) p).2.c])]
noncomputable abbrev Jz:ArgM ((Pr)×Unit):=(amP (mPr) am0)
abbrev Xf (f:Nat):Prop:=Bt Try.prog 63 ((Jz).args 0) (Jz).mem (fun p:(Pr)×Unit=>Nq f p.1) (fun p:(Pr)×Unit=>Jy f p.1) (fun p:(Pr)×Unit=>Ha f p.1)
theorem jD (f:Nat):∀p,(fun p:(Pr)×Unit=>Nq f p.1) p→Cn ((Jz).mem p).length ((fun p:(Pr)×Unit=>Ha f p.1) p)=true:=by intro p _;rfl
theorem jE (f:Nat):∀p,(fun p:(Pr)×Unit=>Nq f p.1) p→Av ((fun p:(Pr)×Unit=>Ha f p.1) p).length ((fun p:(Pr)×Unit=>Jy f p.1) p)=true:=by intro p _;first|rfl|exact AO _ _|exact AP _ _|(simp[Av,C0,AO,AP];done)
theorem jF (f:Nat):∀p,(fun p:(Pr)×Unit=>Nq f p.1) p→∀q,some q∈(fun p:(Pr)×Unit=>Ha f p.1) p→∀r∈q.2,∀c∈r,c.names=[]:=by intro p _;exact Fq _
noncomputable def QK {X:Ctx} {w0:World} (f:Nat) (h:Xf f):Sy.Spec Try.prog X w0:=Ca 63 Try.call63 (Jz) (fun p:(Pr)×Unit=>Nq f p.1) (fun p:(Pr)×Unit=>Jy f p.1) (fun p:(Pr)×Unit=>Ha f p.1) (jD f) (jE f) (jF f) h
attribute [local go_sem] Pr.c zTk
theorem Zq (f:Nat) (hu:Mw f):Xf f:=by
 rintro ⟨p,_u⟩ w M I lab fz xs hc hA hl hx
 refine An Try.func63 rfl ((Jz).mem ⟨p,_u⟩) w M I lab fz [A7,AC,(KK f hu)] [] ((Jz).args 0 ⟨p,_u⟩) ((fun p:(Pr)×Unit=>Ha f p.1) ⟨p,_u⟩) ((fun p:(Pr)×Unit=>Jy f p.1) ⟨p,_u⟩) xs hA hl hx (fun v hv k hk=>by have:=(Jz).an 0 ⟨p,_u⟩ v hv k hk;omega) (jN rfl) (jN rfl) ?_
 clear hx hl hA xs
 simp only[Try.f63]
 obtain⟨hc1,hc2⟩:=hc
 dsimp only at hc1 hc2
 obtain⟨f',rfl⟩:∃f',f=f'+1:=by
  cases f with
  |zero=>
   have h3:p.deep≤40:=hc1.2.2.2.2.1
   have h4:41≤p.deep+((0:Nat):Int):=hc2
   exact absurd h4 (by simp;omega)
  |succ f=>exact⟨f,rfl⟩
 simp only[↓eB,seval,go_sem,AV,Ay,A8,AN,AM,AC,AG,AH,A7,IB,Iz,Cv,CW,KK,Ah,Ag,Ai,Ac,Tok.r,Ad,ptR,Af,AS,AR,AQ]
 refine AU (Y:=Nat×List Sm×Pr) (fun y=>okP y.2.2∧dpU (f'+1) y.2.2∧(y.2.2.e=0→(y.2.2.l.length:Int)+1≤y.2.2.i+(y.1:Int))∧(y.2.2.e=0→(y.2.1.length:Int)≤y.2.2.i)∧stmtsL (C1 (f'+1)) y.1 y.2.1 y.2.2=stmtsW (C1 (f'+1)) p)
  (fun y=>⟨[(0,true,.one (.p 0 0 0)),(3,true,.one (.s 1000))],[(0,.vec 0 zPr [y.2.2.c]),(1000,.vec 0 zSc (y.2.1.map Sm.c))]⟩)
  (fun y=>y.1) (p.l.length+1,[],p) ⟨hc1,hc2,fun _=>by have:=hc1.1;simp only;omega,fun _=>by simpa using hc1.1,rfl⟩ ?_ ?_
 ·refine A2 [.nil 3 1000 zSc] ?_;simp only[↓eB,seval,go_sem,zSc]
 ·rintro ⟨k,l,q⟩ ⟨h1,h2,h3,h4,h5⟩
  refine Ak [A7,AC,KK (f'+1) hu] [] _ _ _ ?_
  dsimp only at h1 h2 h3 h4 h5
  cases he:(q.e==0) with
  |false=>
   have hr2:stmtsW (C1 (f'+1)) p=(l,q):=by rw[← h5];cases k<;>simp[stmtsL,he]
   simp only[↓eB,seval,go_sem,AV,Ay,A8,AN,AM,AC,AG,AH,A7,IB,Iz,Cv,CW,KK,Ah,Ag,Ai,Ac,Tok.r,Ad,ptR,Af,AS,AR,AQ,he]
   try simp only[A3,A4]
   repeat' first|exact ck|with_reducible apply And.intro|intro _
   all_goals first|exact h1|(rename_i h;first|exact oI h|exact nah h)|(rename_i _ h _ g;exact sL h g)|decide|omega|(refine A0 [.fz 1000] ?_;simp only[↓eB,seval,go_sem,bne,Jy,Ha,hr2,arS,smS,zSc,zSm,Gm.ds,Gm.fz])
  |true=>
   have he0:q.e=0:=by simpa using he
   obtain⟨k',rfl⟩:∃k',k=k'+1:=⟨k-1,by have:=h3 he0;have:=h1.2.1;omega⟩
   simp only[stmtsL,he,if_true]at h5
   have hs:=N9 (f'+1) q h1
   have hI:=h1.i
   have hle:l.length≤4096:=by have:=h4 he0;have:=h1.2.1;have:=h1.2.2.1;omega
   cases it:isT [125] q with
   |true=>
    rw[if_pos it]at h5
    simp only[↓eB,seval,go_sem,AV,Ay,A8,AN,AM,AC,AG,AH,A7,IB,Iz,Cv,CW,KK,Ah,Ag,Ai,Ac,Tok.r,Ad,ptR,Af,AS,AR,AQ,he,it,BC,adv]
    try simp only[A3,A4]
    repeat' first|exact ck|with_reducible apply And.intro|intro _
    all_goals first|exact h1|exact hI|(rename_i h;first|exact oI h|exact nah h)|(rename_i _ h _ g;exact sL h g)|decide|omega|(refine A0 [.fz 1000] ?_;simp only[↓eB,seval,go_sem,bne,Jy,Ha,← h5,arS,adv,smS,zSc,zSm,Gm.ds,Gm.fz])
   |false=>
    rw[if_neg (by rw[it];decide)]at h5
    cases ib:decide ((q.l.length:Int)≤q.i) with
    |true=>
     rw[if_pos ib]at h5
     simp only[↓eB,seval,go_sem,AV,Ay,A8,AN,AM,AC,AG,AH,A7,IB,Iz,Cv,CW,KK,Ah,Ag,Ai,Ac,Tok.r,Ad,ptR,Af,AS,AR,AQ,he,it,ib,BC]
     try simp only[A3,A4]
     repeat' first|exact ck|with_reducible apply And.intro|intro _
     all_goals first|exact h1|exact hI|(rename_i h;first|exact oI h|exact nah h)|(rename_i _ h _ g;exact sL h g)|decide|omega|(refine A0 [] ?_;simp only[↓eB,seval,go_sem,bne,Jy,Ha,← h5,arS,smS])
    |false=>
     rw[if_neg (by rw[ib];decide)]at h5
     simp only[↓eB,seval,go_sem,AV,Ay,A8,AN,AM,AC,AG,AH,A7,IB,Iz,Cv,CW,KK,Ah,Ag,Ai,Ac,Tok.r,Ad,ptR,Af,AS,AR,AQ,he,it,ib,BC,zSc,Sm.c,Gm.fn]
     try simp only[A3,A4]
     repeat' first|exact ck|with_reducible apply And.intro|intro _
     all_goals try first|exact h1|exact hI|exact h2|(rename_i h;first|exact oI h|exact nah h)|(rename_i _ h _ g;exact sL h g)|decide|omega
     refine⟨(k',l++[(C1 (f'+1) q).1],(C1 (f'+1) q).2),⟨hs.ok,by show dpU _ _;unfold dpU;rw[hs.d];exact h2,?_,?_,h5⟩,Nat.lt_succ_self _,
      BS (t:=⟨[(0,true,.one (.p 0 0 0)),(3,true,.one (.s 30))],[(0,.vec 0 zPr [(C1 (f'+1) q).2.c]),(30,.vec 0 zSc ((l++[(C1 (f'+1) q).1]).map Sm.c))]⟩) (A2 [] ?_) (A2 [.mv 30 1000] ?_)⟩
     ·exact fun hw0=>by have h6:=h3 he0;have e:=cQ f' h1 hw0;dsimp only;rw[hs.l];omega
     ·exact fun hw0=>by have h6:=h4 he0;have e:=cQ f' h1 hw0;simp only[jL3];omega
     ·simp only[↓eB,seval,go_sem,zSc,Gm.fn,List.flatMap_append,map_append,Sm.c]
     ·simp only[↓eB,seval,go_sem,zSc,Gm.fn,Gm.mv]
abbrev Nr (f:Nat) (p:Pr):Prop:=okP p∧dpU (f+1) p
abbrev K0 (f:Nat) (p:Pr):SV:=.one (smS (blkW (C1 f) p).1)
abbrev Hb (f:Nat) (p:Pr):List (Option MV):=[some (zPr,[(blkW (C1 f) p).2.c])]
noncomputable abbrev K1:ArgM ((Pr)×Unit):=(amP (mPr) am0)
abbrev Xg (f:Nat):Prop:=Bt Try.prog 88 ((K1).args 0) (K1).mem (fun p:(Pr)×Unit=>Nr f p.1) (fun p:(Pr)×Unit=>K0 f p.1) (fun p:(Pr)×Unit=>Hb f p.1)
theorem jG (f:Nat):∀p,(fun p:(Pr)×Unit=>Nr f p.1) p→Cn ((K1).mem p).length ((fun p:(Pr)×Unit=>Hb f p.1) p)=true:=by intro p _;rfl
theorem jH (f:Nat):∀p,(fun p:(Pr)×Unit=>Nr f p.1) p→Av ((fun p:(Pr)×Unit=>Hb f p.1) p).length ((fun p:(Pr)×Unit=>K0 f p.1) p)=true:=by intro p _;first|rfl|exact AO _ _|exact AP _ _|(simp[Av,C0,AO,AP];done)
theorem jI (f:Nat):∀p,(fun p:(Pr)×Unit=>Nr f p.1) p→∀q,some q∈(fun p:(Pr)×Unit=>Hb f p.1) p→∀r∈q.2,∀c∈r,c.names=[]:=by intro p _;exact Fq _
noncomputable def Xh {X:Ctx} {w0:World} (f:Nat) (h:Xg f):Sy.Spec Try.prog X w0:=Ca 88 Try.call88 (K1) (fun p:(Pr)×Unit=>Nr f p.1) (fun p:(Pr)×Unit=>K0 f p.1) (fun p:(Pr)×Unit=>Hb f p.1) (jG f) (jH f) (jI f) h
attribute[local go_sem] Tok.r Ad Ai AS Ah Ag AQ ptR Af AR Ac CW KK QK Cv IB AC AV AH A8 AM A7 Iz AG Ay AN in
theorem qF (f:Nat) (hu:Mw f):Xg f:=by
 rintro ⟨p,_u⟩ w M I lab fz xs hc hA hl hx
 refine An Try.func88 rfl ((K1).mem ⟨p,_u⟩) w M I lab fz [AV,AC,AM,(QK f (Zq f hu))] [] ((K1).args 0 ⟨p,_u⟩) ((fun p:(Pr)×Unit=>Hb f p.1) ⟨p,_u⟩) ((fun p:(Pr)×Unit=>K0 f p.1) ⟨p,_u⟩) xs hA hl hx (fun v hv k hk=>by have:=(K1).an 0 ⟨p,_u⟩ v hv k hk;omega) (jN rfl) (jN rfl) ?_
 clear hx hl hA xs
 simp only[Try.f88]
 obtain⟨hc1,hc2⟩:=hc
 dsimp only at hc1 hc2
 have hI:=hc1.i
 cases i0:isT [123] p with
 |false=>
  have hr:blkW (C1 f) p=([],CJ 51 p):=by simp[blkW,i0]
  simp only[↓eB,seval,go_sem,i0]
  try simp only[A3,A4]
  repeat' first|exact ck|with_reducible apply And.intro|intro _
  all_goals first|exact hI|exact hc1|(rename_i h;first|exact oI h|exact nah h)|(rename_i _ h _ g;exact sL h g)|decide|omega|(refine A0 [] ?_;simp only[↓eB,seval,go_sem,bne,K0,Hb,hr,arS,smS])
 |true=>
 cases ob:Es p with
 |false=>
  have hr:blkW (C1 f) p=([],Bm p):=by simp[blkW,i0,ob]
  simp only[↓eB,seval,go_sem,i0,ob]
  try simp only[A3,A4]
  repeat' first|exact ck|with_reducible apply And.intro|intro _
  all_goals first|exact hI|exact hc1|(rename_i h;first|exact oI h|exact nah h)|(rename_i _ h _ g;exact sL h g)|decide|omega|(refine A0 [] ?_;simp only[↓eB,seval,go_sem,bne,K0,Hb,hr,arS,smS])
 |true=>
  have hr:blkW (C1 f) p=((stmtsW (C1 f) (adv (Bm p))).1,shut (stmtsW (C1 f) (adv (Bm p))).2):=by simp[blkW,i0,ob]
  have ha:=Fl hc1 ob (BB i0).2
  have hd:=XC hc1 ob hc2
  simp only[↓eB,seval,go_sem,i0,ob]
  try simp only[A3,A4]
  repeat' first|exact ck|with_reducible apply And.intro|intro _
  all_goals first|exact hI|exact hc1|exact ha.ok|exact hd|(rename_i h;first|exact oI h|exact nah h)|(rename_i _ h _ g;exact sL h g)|decide|omega|(refine A0 [] ?_;simp only[↓eB,seval,go_sem,bne,K0,Hb,hr,arS,smS,shut,adv])
end Go.Proofs.Ytjnnmindcbgjhaa
