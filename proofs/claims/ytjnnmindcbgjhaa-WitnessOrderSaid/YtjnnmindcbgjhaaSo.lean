/- A statement's row while it is read. No conditions but those in each statement. -/
import Derived.Test.YtjnnmindcbgjhaaAt
import Derived.Test.YtjnnmindcbgjhaaPn
set_option linter.unusedVariables false
set_option linter.unusedSimpArgs false
set_option maxRecDepth 20000
set_option maxHeartbeats 8000000
open List (map_append)
namespace Go.Proofs.Ytjnnmindcbgjhaa
open Go Go.Sy Go.RowKit
abbrev arS (l:List Ar):C:=.d (.sl zAr (l.map Ar.r))
def arO:Option (List Ar)→C
 |none=>.v (.slice none 0 0)
 |some l=>arS l
structure Sf where
 x:List UInt8
 no:Int
def Sf.c (s:Sf):List C:=[.v (.int .i64 0),.v (.string (bs s.x)),.v (.string (bs [])),.v (.pointer none),.v (.pointer none),.v (.pointer none),.v (.slice none 0 0),.v (.slice none 0 0),.v (.slice none 0 0),.v (.int .i64 s.no)]
def Nf (s:Sf) (v:VR):List C:=[.v (.int .i64 v.k),.v (.string (bs s.x)),.v (.string (bs v.y)),exC v.e,.v (.pointer none),.v (.pointer none),arO v.a,.v (.slice none 0 0),.v (.slice none 0 0),.v (.int .i64 s.no)]
theorem ze (s:Sf):∀c∈s.c,c.names=[]:=by
 intro c hc
 simp only[Sf.c,List.mem_cons,List.not_mem_nil,or_false]at hc
 rcases hc with rfl|rfl|rfl|rfl|rfl|rfl|rfl|rfl|rfl|rfl<;>rfl
theorem C9 (o:Option (List Ar)):(arO o).names=[]:=by cases o<;>rfl
theorem Co (o:Option (List Ar)):C.stor (arO o)=true:=by cases o<;>rfl
theorem Cp (o:Option (List Ar)):De (arO o)=true:=by cases o<;>rfl
theorem DB (k u:Nat) (p:List (Nat×Nat)) (i j:Nat) (o:Option (List Ar)) (r:List C):ldc k u p i j (arO o::r)=arO o::ldc k u p i (j+1) r:=by cases o<;>rfl
theorem Iw (o:Option (List Ar)):leC (arO o) (.d (.sl zAr ((o.getD []).map Ar.r)))=True:=by
 cases o with
 |none=>exact GP _
 |some l=>exact FQ _
theorem Mq:arO none= .v (.slice none 0 0):=rfl
theorem fK (l:List Ar):arO (some l)= .d (.sl zAr (l.map Ar.r)):=rfl
theorem u4 (a b:Sf) (h:a.c=b.c):a=b:=by
 obtain⟨x,no⟩:=a
 obtain⟨x',no'⟩:=b
 simp only[Sf.c,List.cons.injEq,C.v.injEq,Value.int.injEq,Value.string.injEq,true_and,and_true]at h
 rw[bs_inj h.1,h.2]
noncomputable def mSf:RowM Sf:=Mv zSc Sf.c ze
theorem iq:mSf.z=zSc:=rfl
theorem ir:mSf.e=Sf.c:=rfl
theorem zf (x:List UInt8) (no:Int):mSf.d [.v (.int .i64 0),.v (.string (bs x)),.v (.string (bs [])),.v (.pointer none),.v (.pointer none),.v (.pointer none),.v (.slice none 0 0),.v (.slice none 0 0),.v (.slice none 0 0),.v (.int .i64 no)]=some ⟨x,no⟩:=Kv u4 ⟨x,no⟩
end Go.Proofs.Ytjnnmindcbgjhaa
namespace Go.Proofs.Ytjnnmindcbgjhaa
open Go Go.Sy Go.RowKit
abbrev OZ (p:Pr):Prop:=okP p
abbrev Kr (p:Pr):SV:=.one (arS (Ew p).1)
abbrev IV (p:Pr):List (Option MV):=[some (zPr,[(Ew p).2.c])]
noncomputable abbrev Ks:ArgM ((Pr)×Unit):=(amP (mPr) am0)
abbrev mW:Prop:=Cq Try.prog 89 ((Ks).args 0) (Ks).mem (fun p:(Pr)×Unit=>OZ p.1) (fun p:(Pr)×Unit=>Kr p.1) (fun p:(Pr)×Unit=>IV p.1)
theorem mY:∀p,(fun p:(Pr)×Unit=>OZ p.1) p→DY ((Ks).mem p).length ((fun p:(Pr)×Unit=>IV p.1) p)=true:=by intro p _;rfl
theorem mZ:∀p,(fun p:(Pr)×Unit=>OZ p.1) p→BF ((fun p:(Pr)×Unit=>IV p.1) p).length ((fun p:(Pr)×Unit=>Kr p.1) p)=true:=by intro p _;first|rfl|exact Ak _ _|exact Al _ _|(simp[BF,CV,Ak,Al];done)
theorem mc:∀p,(fun p:(Pr)×Unit=>OZ p.1) p→∀q,some q∈(fun p:(Pr)×Unit=>IV p.1) p→∀r∈q.2,∀c∈r,c.names=[]:=by intro p _;exact FM _
attribute [local go_sem] Pr.c zTk
theorem u5:mW:=by
 rintro ⟨p,_u⟩ w M I lab fz xs hc hA hl hx
 refine BQ Try.func89 rfl ((Ks).mem ⟨p,_u⟩) w M I lab fz [A7,AG,TV] [] ((Ks).args 0 ⟨p,_u⟩) ((fun p:(Pr)×Unit=>IV p.1) ⟨p,_u⟩) ((fun p:(Pr)×Unit=>Kr p.1) ⟨p,_u⟩) xs hA hl hx (fun v hv k hk=>by have:=(Ks).an 0 ⟨p,_u⟩ v hv k hk;omega) (jN rfl) (jN rfl) ?_
 clear hx hl hA xs
 simp only[Try.f89]
 have hc1:okP p:=hc
 cases i0:isT [41] p with
 |true=>
  have hr:Ew p=([],adv p):=by simp[Ew,i0]
  simp only[↓eB,seval,go_sem,AR,As,A8,AN,AM,AC,AG,AH,A7,Ct,CP,Af,Ae,Ag,AZ,Tok.r,Aa,ptR,Ad,AQ,AP,AO,i0,Az]
  try simp only[A3,A4]
  repeat' first|exact ck|with_reducible apply And.intro|intro _
  all_goals first|exact hc1|(rename_i h;first|exact oI h|exact nah h)|(rename_i _ h _ g;exact sL h g)|decide|omega|(refine A0 [] ?_;simp only[↓eB,seval,go_sem,bne,Kr,IV,hr,arS,adv])
 |false=>
 have hr:Ew p=Ka (p.l.length+1) [] p:=by simp[Ew,i0]
 simp only[↓eB,seval,go_sem,AR,As,A8,AN,AM,AC,AG,AH,A7,Ct,CP,Af,Ae,Ag,AZ,Tok.r,Aa,ptR,Ad,AQ,AP,AO,i0,Az]
 refine⟨hc1,?_⟩
 refine Ac (Y:=Nat×List Ar×Pr) (fun y=>okP y.2.2∧(y.2.2.e=0→(y.2.2.l.length:Int)+1≤y.2.2.i+(y.1:Int))∧(y.2.2.e=0→(y.2.1.length:Int)≤y.2.2.i)∧Ka y.1 y.2.1 y.2.2=Ew p)
  (fun y=>⟨[(0,true,.one (.p 0 0 0)),(3,true,.one (.s 1000))],[(0,.vec 0 zPr [y.2.2.c]),(1000,.vec 0 zAc (y.2.1.map Ar.c))]⟩)
  (fun y=>y.1) (p.l.length+1,[],p) ⟨hc1,fun _=>by have:=hc1.1;simp only;omega,fun _=>by simpa using hc1.1,hr.symm⟩ ?_ ?_
 ·refine A2 [.nil 3 1000 zAc] ?_;simp only[↓eB,seval,go_sem,zAc]
 ·rintro ⟨k,l,q⟩ ⟨h1,h2,h3,h4⟩
  refine Aq [A7,AG,TV] [] _ _ _ ?_
  dsimp only at h1 h2 h3 h4
  cases he:(q.e==0) with
  |false=>
   have hr2:Ew p=([],q):=by rw[← h4];cases k<;>simp[Ka,he]
   simp only[↓eB,seval,go_sem,AR,As,A8,AN,AM,AC,AG,AH,A7,Ct,CP,Af,Ae,Ag,AZ,Tok.r,Aa,ptR,Ad,AQ,AP,AO,he]
   try simp only[A3,A4]
   repeat' first|exact ck|with_reducible apply And.intro|intro _
   all_goals first|exact h1|(rename_i h;first|exact oI h|exact nah h)|(rename_i _ h _ g;exact sL h g)|decide|omega|(refine A0 [] ?_;simp only[↓eB,seval,go_sem,bne,Kr,IV,hr2,arS])
  |true=>
   have he0:q.e=0:=by simpa using he
   obtain⟨k',rfl⟩:∃k',k=k'+1:=⟨k-1,by have:=h2 he0;have:=h1.2.1;omega⟩
   simp only[Ka,he,if_true]at h4
   have hs:=Dr h1
   have hle:l.length≤4096:=by have:=h3 he0;have:=h1.2.1;have:=h1.2.2.1;omega
   have hd:=KR h1
   cases it:isT [41] (exS q).2 with
   |true=>
    rw[if_pos it]at h4
    have hb:=B8 hs.ok it
    simp only[↓eB,seval,go_sem,AR,As,A8,AN,AM,AC,AG,AH,A7,Ct,CP,Af,Ae,Ag,AZ,Tok.r,Aa,ptR,Ad,AQ,AP,AO,he,it,Az,adv,zAc,Gd.fn]
    try simp only[A3,A4]
    repeat' first|exact ck|with_reducible apply And.intro|intro _
    all_goals first|exact h1|exact hd|exact hs.ok|(rename_i h;first|exact oI h|exact nah h)|(rename_i _ h _ g;exact sL h g)|decide|omega|(refine A0 [.fz 16] ?_;simp only[↓eB,seval,go_sem,bne,Kr,IV,← h4,arS,adv,zAr,Gd.ds1,map_append,Ar.r])
   |false=>
    rw[if_neg (by rw[it];decide)]at h4
    have hw:=BH (t:=[44]) hs.ok
    simp only[↓eB,seval,go_sem,AR,As,A8,AN,AM,AC,AG,AH,A7,Ct,CP,Af,Ae,Ag,AZ,Tok.r,Aa,ptR,Ad,AQ,AP,AO,he,it,Az,zAc,Gd.fn]
    try simp only[A3,A4]
    repeat' first|exact ck|with_reducible apply And.intro|intro _
    all_goals try first|exact h1|exact hd|exact hs.ok|(rename_i h;first|exact oI h|exact nah h)|(rename_i _ h _ g;exact sL h g)|decide|omega
    refine⟨(k',l++[⟨false,[],(exS q).1⟩],AX [44] (exS q).2),⟨hw.ok,?_,?_,h4⟩,Nat.lt_succ_self _,
     B4 (t:=⟨[(0,true,.one (.p 0 0 0)),(3,true,.one (.s 16))],[(0,.vec 0 zPr [(AX [44] (exS q).2).c]),(16,.vec 0 zAc ((l++[(⟨false,[],(exS q).1⟩:Ar)]).map Ar.c))]⟩) (A2 [] ?_) (A2 [.mv 16 1000] ?_)⟩
    ·exact fun hw0=>by have h5:=h2 he0;have hi1:=hs.i;have e:=SK hs.ok hw0;dsimp only;rw[hw.l,hs.l];omega
    ·exact fun hw0=>by have h5:=h3 he0;have hi1:=hs.i;have e:=SK hs.ok hw0;simp only[jL3];omega
    ·simp only[↓eB,seval,go_sem,zAc,Gd.fn,List.flatMap_append,map_append,Ar.c]
    ·simp only[↓eB,seval,go_sem,zAc,Gd.fn,Gd.mv]
noncomputable def HQ {X:Ctx} {w0:World}:Sy.Spec Try.prog X w0:=DT 89 Try.call89 (Ks) (fun p:(Pr)×Unit=>OZ p.1) (fun p:(Pr)×Unit=>Kr p.1) (fun p:(Pr)×Unit=>IV p.1) mY mZ mc u5
end Go.Proofs.Ytjnnmindcbgjhaa
namespace Go.Proofs.Ytjnnmindcbgjhaa
open Go Go.Sy Go.RowKit
theorem mf (p:Pr) (s:Sf) (v:VR):∀q,some q∈[some ((zPr,[p.c]):MV),some ((zSc,[Nf s v]):MV)]→∀r∈q.2,∀c∈r,c.names=[]:=by
 intro q hq r hr c hc
 simp only[List.mem_cons,List.not_mem_nil,or_false,jS]at hq
 rcases hq with rfl|rfl
 ·simp only[List.mem_singleton]at hr;subst hr;exact S9 p c hc
 ·simp only[List.mem_singleton]at hr;subst hr
  simp only[Nf,List.mem_cons,List.not_mem_nil,or_false]at hc
  rcases hc with rfl|rfl|rfl|rfl|rfl|rfl|rfl|rfl|rfl|rfl<;>first|rfl|exact Ge _|exact C9 _
abbrev Mr (p:Pr) (s:Sf):Prop:=okP p
abbrev GA (p:Pr) (s:Sf):SV:=.tup []
abbrev F0 (p:Pr) (s:Sf):List (Option MV):=[some (zPr,[(CI p).2.c]),some (zSc,[Nf s (CI p).1])]
noncomputable abbrev JF:ArgM ((Pr)×(Sf)×Unit):=(amP (mPr) (amP (mSf) am0))
abbrev fL:Prop:=Cq Try.prog 90 ((JF).args 0) (JF).mem (fun p:(Pr)×(Sf)×Unit=>Mr p.1 p.2.1) (fun p:(Pr)×(Sf)×Unit=>GA p.1 p.2.1) (fun p:(Pr)×(Sf)×Unit=>F0 p.1 p.2.1)
theorem fM:∀p,(fun p:(Pr)×(Sf)×Unit=>Mr p.1 p.2.1) p→DY ((JF).mem p).length ((fun p:(Pr)×(Sf)×Unit=>F0 p.1 p.2.1) p)=true:=by intro p _;rfl
theorem fN:∀p,(fun p:(Pr)×(Sf)×Unit=>Mr p.1 p.2.1) p→BF ((fun p:(Pr)×(Sf)×Unit=>F0 p.1 p.2.1) p).length ((fun p:(Pr)×(Sf)×Unit=>GA p.1 p.2.1) p)=true:=by intro p _;first|rfl|exact Ak _ _|exact Al _ _|(simp[BF,CV,Ak,Al];done)
theorem fO:∀p,(fun p:(Pr)×(Sf)×Unit=>Mr p.1 p.2.1) p→∀q,some q∈(fun p:(Pr)×(Sf)×Unit=>F0 p.1 p.2.1) p→∀r∈q.2,∀c∈r,c.names=[]:=by intro p _;exact mf _ _ _
attribute [local go_sem] Pr.c Sf.c Tok.r Aa Ag AQ Af Ae ir iq AO ptR Ad AP Az AZ CP Ct HQ AC AR AH A8 AM A7 AG As AN zTk
theorem mg:fL:=by
 rintro ⟨p,s,_u⟩ w M I lab fz xs hc hA hl hx
 refine BQ Try.func90 rfl ((JF).mem ⟨p,s,_u⟩) w M I lab fz [A7,A8,AH,AG,HQ,TV] [] ((JF).args 0 ⟨p,s,_u⟩) ((fun p:(Pr)×(Sf)×Unit=>F0 p.1 p.2.1) ⟨p,s,_u⟩) ((fun p:(Pr)×(Sf)×Unit=>GA p.1 p.2.1) ⟨p,s,_u⟩) xs hA hl hx (fun v hv k hk=>by have:=(JF).an 0 ⟨p,s,_u⟩ v hv k hk;omega) (jN rfl) (jN rfl) ?_
 clear hx hl hA xs
 simp only[Try.f90]
 have hc1:okP p:=hc
 have hI:=hc1.i
 have hdp:=KR hc1
 cases i0:isT Ry p with
 |true=>
  have hr:CI p=(⟨3,[],.nil,none⟩,adv p):=by simp[CI,i0]
  simp only[↓eB,seval,go_sem,i0]
  try simp only[A3,A4]
  repeat' first|exact ck|with_reducible apply And.intro|intro _
  all_goals first|exact hI|exact hc1|(rename_i h;first|exact oI h|exact nah h)|(rename_i _ h _ g;exact sL h g)|decide|omega|(refine A0 [] ?_;simp only[↓eB,seval,go_sem,bne,GA,F0,hr,arS,adv,Nf,Mq,AV,zSc])
 |false=>
 cases i1:isT [38] p with
 |true=>
  have hr:CI p=(⟨1,CY (adv p),.nil,none⟩,BE (adv p)):=by simp[CI,i0,i1]
  have ha:=B8 hc1 i1
  simp only[↓eB,seval,go_sem,i0,i1,adv]
  try simp only[A3,A4]
  repeat' first|exact ck|with_reducible apply And.intro|intro _
  all_goals first|exact hI|exact hc1|exact ha.ok|(rename_i h;first|exact oI h|exact nah h)|(rename_i _ h _ g;exact sL h g)|decide|omega|(refine A0 [] ?_;simp only[↓eB,seval,go_sem,bne,GA,F0,hr,arS,adv,Nf,Mq,AV,zSc])
 |false=>
 cases i2:isT [42] p with
 |true=>
  have hr:CI p=(⟨4,CY (adv p),.nil,none⟩,BE (adv p)):=by simp[CI,i0,i1,i2]
  have ha:=B8 hc1 i2
  simp only[↓eB,seval,go_sem,i0,i1,i2,adv]
  try simp only[A3,A4]
  repeat' first|exact ck|with_reducible apply And.intro|intro _
  all_goals first|exact hI|exact hc1|exact ha.ok|(rename_i h;first|exact oI h|exact nah h)|(rename_i _ h _ g;exact sL h g)|decide|omega|(refine A0 [] ?_;simp only[↓eB,seval,go_sem,bne,GA,F0,hr,arS,adv,Nf,Mq,AV,zSc])
 |false=>
 have n5:IntKind.i64.wrap (p.i+1)=p.i+1:=by obtain⟨h1,h2,h3,_⟩:=hc1;exact wrap_i64 (by omega) (by omega)
 have q0:(0≤p.i+1)=True:=by have:=hc1.1;simp;omega
 cases i3:ahB [91] p with
 |true=>
  have hr:CI p=(⟨6,CY p,(exS (adv (BE p))).1,none⟩,AX [93] (exS (adv (BE p))).2):=by simp[CI,i0,i1,i2,i3]
  obtain⟨hna,z1,_,z2⟩:=Yk hc1 i3
  have z0:decide (p.i+1<(p.l.length:Int))=true:=by simp[z1]
  have z0':(p.i+1<(p.l.length:Int))=True:=by simp[z1]
  have ha:=a7 hc1 i3
  have hs:=Dr ha.ok
  have hd:=KR ha.ok
  simp only[↓eB,seval,go_sem,i0,i1,i2,hna,n5,q0,z0,z0',z2]
  try simp only[A3,A4]
  repeat' first|exact ck|with_reducible apply And.intro|intro _
  all_goals first|exact hI|exact hc1|exact ha.ok|exact hs.ok|exact hd|(rename_i h;first|exact oI h|exact nah h)|(rename_i _ h _ g;exact sL h g)|decide|omega|(refine A0 [] ?_;simp only[↓eB,seval,go_sem,bne,GA,F0,hr,arS,adv,Nf,Mq,AV,zSc])
 |false=>
 have g3:=i3
 unfold ahB tkA at g3
 simp only[w64i,n5]at g3
 cases i4:ahB [40] p with
 |true=>
  have hr:CI p=(⟨8,CY p,.nil,some (Ew (adv (BE p))).1⟩,(Ew (adv (BE p))).2):=by simp[CI,i0,i1,i2,i3,i4]
  obtain⟨hna,z1,_,z2⟩:=Yk hc1 i4
  have z0:decide (p.i+1<(p.l.length:Int))=true:=by simp[z1]
  have z0':(p.i+1<(p.l.length:Int))=True:=by simp[z1]
  have z3:((p.l.getD (p.i+1).toNat tk0).t==[91])=false:=by rw[hna,z0]at g3;simpa using g3
  have ha:=a7 hc1 i4
  simp only[↓eB,seval,go_sem,i0,i1,i2,hna,n5,q0,z0,z0',z2,z3]
  try simp only[A3,A4]
  repeat' first|exact ck|with_reducible apply And.intro|intro _
  all_goals first|exact hI|exact hc1|exact ha.ok|(rename_i h;first|exact oI h|exact nah h)|(rename_i _ h _ g;exact sL h g)|decide|omega|(refine A0 [] ?_;simp only[↓eB,seval,go_sem,bne,GA,F0,hr,arS,adv,Nf,fK,AV,zSc])
 |false=>
 have hr:CI p=(⟨0,[],(exS p).1,none⟩,(exS p).2):=by simp[CI,i0,i1,i2,i3,i4]
 have g4:=i4
 unfold ahB tkA at g4
 simp only[w64i,n5]at g4
 simp only[↓eB,seval,go_sem,i0,i1,i2,g3,g4,n5,q0]
 try simp only[A3,A4]
 repeat' first|exact ck|with_reducible apply And.intro|intro _
 all_goals first|exact hI|exact hc1|exact hdp|(assumption)|(simp only[Bool.and_eq_true,decide_eq_true_eq]at *;omega)|(rename_i h;first|exact oI h|exact nah h)|(rename_i _ h _ g;exact sL h g)|decide|omega|(refine A0 [] ?_;simp only[↓eB,seval,go_sem,bne,GA,F0,hr,arS,adv,Nf,Mq,AV,zSc])
noncomputable def IC {X:Ctx} {w0:World}:Sy.Spec Try.prog X w0:=DT 90 Try.call90 (JF) (fun p:(Pr)×(Sf)×Unit=>Mr p.1 p.2.1) (fun p:(Pr)×(Sf)×Unit=>GA p.1 p.2.1) (fun p:(Pr)×(Sf)×Unit=>F0 p.1 p.2.1) fM fN fO mg
end Go.Proofs.Ytjnnmindcbgjhaa
namespace Go.Proofs.Ytjnnmindcbgjhaa
open Go Go.Sy Go.RowKit
abbrev smS (l:List Sm):C:=.d (.sl zSm (l.map Sm.r))
theorem u6 (n:Nat) (s:Sm):BF n (.agg s.c)=true:=by
 show s.c.all (CV n)=true
 unfold Sm.c
 simp only[List.all_cons,List.all_nil,Ak,Al,Bool.and_true]
 rfl
end Go.Proofs.Ytjnnmindcbgjhaa
namespace Go.Proofs.Ytjnnmindcbgjhaa
open Go Go.Sy Go.RowKit
abbrev Oa (f:Nat) (p:Pr):Prop:=okP p∧dpU f p
abbrev Er (f:Nat) (p:Pr):SV:=.agg (B6 f p).1.c
abbrev EG (f:Nat) (p:Pr):List (Option MV):=[some (zPr,[(B6 f p).2.c])]
noncomputable abbrev Ku:ArgM ((Pr)×Unit):=(amP (mPr) am0)
abbrev M6 (f:Nat):Prop:=Cq Try.prog 77 ((Ku).args 0) (Ku).mem (fun p:(Pr)×Unit=>Oa f p.1) (fun p:(Pr)×Unit=>Er f p.1) (fun p:(Pr)×Unit=>EG f p.1)
theorem mh (f:Nat):∀p,(fun p:(Pr)×Unit=>Oa f p.1) p→DY ((Ku).mem p).length ((fun p:(Pr)×Unit=>EG f p.1) p)=true:=by intro p _;rfl
theorem mi (f:Nat):∀p,(fun p:(Pr)×Unit=>Oa f p.1) p→BF ((fun p:(Pr)×Unit=>EG f p.1) p).length ((fun p:(Pr)×Unit=>Er f p.1) p)=true:=by intro p _;exact u6 _ _
theorem mj (f:Nat):∀p,(fun p:(Pr)×Unit=>Oa f p.1) p→∀q,some q∈(fun p:(Pr)×Unit=>EG f p.1) p→∀r∈q.2,∀c∈r,c.names=[]:=by intro p _;exact FM _
noncomputable def Jg {X:Ctx} {w0:World} (f:Nat) (h:M6 f):Sy.Spec Try.prog X w0:=DT 77 Try.call77 (Ku) (fun p:(Pr)×Unit=>Oa f p.1) (fun p:(Pr)×Unit=>Er f p.1) (fun p:(Pr)×Unit=>EG f p.1) (mh f) (mi f) (mj f) h
abbrev Mt (f:Nat) (p:Pr):Prop:=okP p∧dpU f p
abbrev JG (f:Nat) (p:Pr):SV:=.one (smS (GH (B6 f) p).1)
abbrev Gp (f:Nat) (p:Pr):List (Option MV):=[some (zPr,[(GH (B6 f) p).2.c])]
noncomputable abbrev JH:ArgM ((Pr)×Unit):=(amP (mPr) am0)
abbrev W6 (f:Nat):Prop:=Cq Try.prog 63 ((JH).args 0) (JH).mem (fun p:(Pr)×Unit=>Mt f p.1) (fun p:(Pr)×Unit=>JG f p.1) (fun p:(Pr)×Unit=>Gp f p.1)
theorem fP (f:Nat):∀p,(fun p:(Pr)×Unit=>Mt f p.1) p→DY ((JH).mem p).length ((fun p:(Pr)×Unit=>Gp f p.1) p)=true:=by intro p _;rfl
theorem fQ (f:Nat):∀p,(fun p:(Pr)×Unit=>Mt f p.1) p→BF ((fun p:(Pr)×Unit=>Gp f p.1) p).length ((fun p:(Pr)×Unit=>JG f p.1) p)=true:=by intro p _;first|rfl|exact Ak _ _|exact Al _ _|(simp[BF,CV,Ak,Al];done)
theorem fR (f:Nat):∀p,(fun p:(Pr)×Unit=>Mt f p.1) p→∀q,some q∈(fun p:(Pr)×Unit=>Gp f p.1) p→∀r∈q.2,∀c∈r,c.names=[]:=by intro p _;exact FM _
noncomputable def PC {X:Ctx} {w0:World} (f:Nat) (h:W6 f):Sy.Spec Try.prog X w0:=DT 63 Try.call63 (JH) (fun p:(Pr)×Unit=>Mt f p.1) (fun p:(Pr)×Unit=>JG f p.1) (fun p:(Pr)×Unit=>Gp f p.1) (fP f) (fQ f) (fR f) h
attribute [local go_sem] Pr.c zTk
theorem YH (f:Nat) (hu:M6 f):W6 f:=by
 rintro ⟨p,_u⟩ w M I lab fz xs hc hA hl hx
 refine BQ Try.func63 rfl ((JH).mem ⟨p,_u⟩) w M I lab fz [A7,AC,(Jg f hu)] [] ((JH).args 0 ⟨p,_u⟩) ((fun p:(Pr)×Unit=>Gp f p.1) ⟨p,_u⟩) ((fun p:(Pr)×Unit=>JG f p.1) ⟨p,_u⟩) xs hA hl hx (fun v hv k hk=>by have:=(JH).an 0 ⟨p,_u⟩ v hv k hk;omega) (jN rfl) (jN rfl) ?_
 clear hx hl hA xs
 simp only[Try.f63]
 obtain⟨hc1,hc2⟩:=hc
 dsimp only at hc1 hc2
 obtain⟨f',rfl⟩:∃f',f=f'+1:=by
  cases f with
  |zero=>
   have h3:p.deep≤40:=hc1.2.2.2.2.1
   have h4:41≤p.deep+((0:Nat):Int):=hc2
   exact absurd h4 (by simp;omega)
  |succ f=>exact⟨f,rfl⟩
 simp only[↓eB,seval,go_sem,AR,As,A8,AN,AM,AC,AG,AH,A7,HQ,IC,Ct,CP,Jg,Af,Ae,Ag,AZ,Tok.r,Aa,ptR,Ad,AQ,AP,AO]
 refine Ac (Y:=Nat×List Sm×Pr) (fun y=>okP y.2.2∧dpU (f'+1) y.2.2∧(y.2.2.e=0→(y.2.2.l.length:Int)+1≤y.2.2.i+(y.1:Int))∧(y.2.2.e=0→(y.2.1.length:Int)≤y.2.2.i)∧Fh (B6 (f'+1)) y.1 y.2.1 y.2.2=GH (B6 (f'+1)) p)
  (fun y=>⟨[(0,true,.one (.p 0 0 0)),(3,true,.one (.s 1000))],[(0,.vec 0 zPr [y.2.2.c]),(1000,.vec 0 zSc (y.2.1.map Sm.c))]⟩)
  (fun y=>y.1) (p.l.length+1,[],p) ⟨hc1,hc2,fun _=>by have:=hc1.1;simp only;omega,fun _=>by simpa using hc1.1,rfl⟩ ?_ ?_
 ·refine A2 [.nil 3 1000 zSc] ?_;simp only[↓eB,seval,go_sem,zSc]
 ·rintro ⟨k,l,q⟩ ⟨h1,h2,h3,h4,h5⟩
  refine Aq [A7,AC,Jg (f'+1) hu] [] _ _ _ ?_
  dsimp only at h1 h2 h3 h4 h5
  cases he:(q.e==0) with
  |false=>
   have hr2:GH (B6 (f'+1)) p=(l,q):=by rw[← h5];cases k<;>simp[Fh,he]
   simp only[↓eB,seval,go_sem,AR,As,A8,AN,AM,AC,AG,AH,A7,HQ,IC,Ct,CP,Jg,Af,Ae,Ag,AZ,Tok.r,Aa,ptR,Ad,AQ,AP,AO,he]
   try simp only[A3,A4]
   repeat' first|exact ck|with_reducible apply And.intro|intro _
   all_goals first|exact h1|(rename_i h;first|exact oI h|exact nah h)|(rename_i _ h _ g;exact sL h g)|decide|omega|(refine A0 [.fz 1000] ?_;simp only[↓eB,seval,go_sem,bne,JG,Gp,hr2,arS,smS,zSc,zSm,GF.ds,GF.fz])
  |true=>
   have he0:q.e=0:=by simpa using he
   obtain⟨k',rfl⟩:∃k',k=k'+1:=⟨k-1,by have:=h3 he0;have:=h1.2.1;omega⟩
   simp only[Fh,he,if_true]at h5
   have hs:=Nt (f'+1) q h1
   have hI:=h1.i
   have hle:l.length≤4096:=by have:=h4 he0;have:=h1.2.1;have:=h1.2.2.1;omega
   cases it:isT [125] q with
   |true=>
    rw[if_pos it]at h5
    simp only[↓eB,seval,go_sem,AR,As,A8,AN,AM,AC,AG,AH,A7,HQ,IC,Ct,CP,Jg,Af,Ae,Ag,AZ,Tok.r,Aa,ptR,Ad,AQ,AP,AO,he,it,Az,adv]
    try simp only[A3,A4]
    repeat' first|exact ck|with_reducible apply And.intro|intro _
    all_goals first|exact h1|exact hI|(rename_i h;first|exact oI h|exact nah h)|(rename_i _ h _ g;exact sL h g)|decide|omega|(refine A0 [.fz 1000] ?_;simp only[↓eB,seval,go_sem,bne,JG,Gp,← h5,arS,adv,smS,zSc,zSm,GF.ds,GF.fz])
   |false=>
    rw[if_neg (by rw[it];decide)]at h5
    cases ib:decide ((q.l.length:Int)≤q.i) with
    |true=>
     rw[if_pos ib]at h5
     simp only[↓eB,seval,go_sem,AR,As,A8,AN,AM,AC,AG,AH,A7,HQ,IC,Ct,CP,Jg,Af,Ae,Ag,AZ,Tok.r,Aa,ptR,Ad,AQ,AP,AO,he,it,ib,Az]
     try simp only[A3,A4]
     repeat' first|exact ck|with_reducible apply And.intro|intro _
     all_goals first|exact h1|exact hI|(rename_i h;first|exact oI h|exact nah h)|(rename_i _ h _ g;exact sL h g)|decide|omega|(refine A0 [] ?_;simp only[↓eB,seval,go_sem,bne,JG,Gp,← h5,arS,smS])
    |false=>
     rw[if_neg (by rw[ib];decide)]at h5
     simp only[↓eB,seval,go_sem,AR,As,A8,AN,AM,AC,AG,AH,A7,HQ,IC,Ct,CP,Jg,Af,Ae,Ag,AZ,Tok.r,Aa,ptR,Ad,AQ,AP,AO,he,it,ib,Az,zSc,Sm.c,GF.fn]
     try simp only[A3,A4]
     repeat' first|exact ck|with_reducible apply And.intro|intro _
     all_goals try first|exact h1|exact hI|exact h2|(rename_i h;first|exact oI h|exact nah h)|(rename_i _ h _ g;exact sL h g)|decide|omega
     refine⟨(k',l++[(B6 (f'+1) q).1],(B6 (f'+1) q).2),⟨hs.ok,by show dpU _ _;unfold dpU;rw[hs.d];exact h2,?_,?_,h5⟩,Nat.lt_succ_self _,
      B4 (t:=⟨[(0,true,.one (.p 0 0 0)),(3,true,.one (.s 30))],[(0,.vec 0 zPr [(B6 (f'+1) q).2.c]),(30,.vec 0 zSc ((l++[(B6 (f'+1) q).1]).map Sm.c))]⟩) (A2 [] ?_) (A2 [.mv 30 1000] ?_)⟩
     ·exact fun hw0=>by have h6:=h3 he0;have e:=a8 f' h1 hw0;dsimp only;rw[hs.l];omega
     ·exact fun hw0=>by have h6:=h4 he0;have e:=a8 f' h1 hw0;simp only[jL3];omega
     ·simp only[↓eB,seval,go_sem,zSc,GF.fn,List.flatMap_append,map_append,Sm.c]
     ·simp only[↓eB,seval,go_sem,zSc,GF.fn,GF.mv]
abbrev Mu (f:Nat) (p:Pr):Prop:=okP p∧dpU (f+1) p
abbrev JI (f:Nat) (p:Pr):SV:=.one (smS (D2 (B6 f) p).1)
abbrev Gq (f:Nat) (p:Pr):List (Option MV):=[some (zPr,[(D2 (B6 f) p).2.c])]
noncomputable abbrev JJ:ArgM ((Pr)×Unit):=(amP (mPr) am0)
abbrev W7 (f:Nat):Prop:=Cq Try.prog 88 ((JJ).args 0) (JJ).mem (fun p:(Pr)×Unit=>Mu f p.1) (fun p:(Pr)×Unit=>JI f p.1) (fun p:(Pr)×Unit=>Gq f p.1)
theorem fS (f:Nat):∀p,(fun p:(Pr)×Unit=>Mu f p.1) p→DY ((JJ).mem p).length ((fun p:(Pr)×Unit=>Gq f p.1) p)=true:=by intro p _;rfl
theorem fT (f:Nat):∀p,(fun p:(Pr)×Unit=>Mu f p.1) p→BF ((fun p:(Pr)×Unit=>Gq f p.1) p).length ((fun p:(Pr)×Unit=>JI f p.1) p)=true:=by intro p _;first|rfl|exact Ak _ _|exact Al _ _|(simp[BF,CV,Ak,Al];done)
theorem fU (f:Nat):∀p,(fun p:(Pr)×Unit=>Mu f p.1) p→∀q,some q∈(fun p:(Pr)×Unit=>Gq f p.1) p→∀r∈q.2,∀c∈r,c.names=[]:=by intro p _;exact FM _
noncomputable def W8 {X:Ctx} {w0:World} (f:Nat) (h:W7 f):Sy.Spec Try.prog X w0:=DT 88 Try.call88 (JJ) (fun p:(Pr)×Unit=>Mu f p.1) (fun p:(Pr)×Unit=>JI f p.1) (fun p:(Pr)×Unit=>Gq f p.1) (fS f) (fT f) (fU f) h
attribute[local go_sem] Tok.r Aa Ag AQ Af Ae AO ptR Ad AP AZ CP Jg PC Ct HQ AC AR AH A8 AM A7 IC AG As AN in
theorem ml (f:Nat) (hu:M6 f):W7 f:=by
 rintro ⟨p,_u⟩ w M I lab fz xs hc hA hl hx
 refine BQ Try.func88 rfl ((JJ).mem ⟨p,_u⟩) w M I lab fz [AR,AC,AM,(PC f (YH f hu))] [] ((JJ).args 0 ⟨p,_u⟩) ((fun p:(Pr)×Unit=>Gq f p.1) ⟨p,_u⟩) ((fun p:(Pr)×Unit=>JI f p.1) ⟨p,_u⟩) xs hA hl hx (fun v hv k hk=>by have:=(JJ).an 0 ⟨p,_u⟩ v hv k hk;omega) (jN rfl) (jN rfl) ?_
 clear hx hl hA xs
 simp only[Try.f88]
 obtain⟨hc1,hc2⟩:=hc
 dsimp only at hc1 hc2
 have hI:=hc1.i
 cases i0:isT [123] p with
 |false=>
  have hr:D2 (B6 f) p=([],C7 51 p):=by simp[D2,i0]
  simp only[↓eB,seval,go_sem,i0]
  try simp only[A3,A4]
  repeat' first|exact ck|with_reducible apply And.intro|intro _
  all_goals first|exact hI|exact hc1|(rename_i h;first|exact oI h|exact nah h)|(rename_i _ h _ g;exact sL h g)|decide|omega|(refine A0 [] ?_;simp only[↓eB,seval,go_sem,bne,JI,Gq,hr,arS,smS])
 |true=>
 cases ob:DH p with
 |false=>
  have hr:D2 (B6 f) p=([],Ai p):=by simp[D2,i0,ob]
  simp only[↓eB,seval,go_sem,i0,ob]
  try simp only[A3,A4]
  repeat' first|exact ck|with_reducible apply And.intro|intro _
  all_goals first|exact hI|exact hc1|(rename_i h;first|exact oI h|exact nah h)|(rename_i _ h _ g;exact sL h g)|decide|omega|(refine A0 [] ?_;simp only[↓eB,seval,go_sem,bne,JI,Gq,hr,arS,smS])
 |true=>
  have hr:D2 (B6 f) p=((GH (B6 f) (adv (Ai p))).1,shut (GH (B6 f) (adv (Ai p))).2):=by simp[D2,i0,ob]
  have ha:=Fg hc1 ob (BB i0).2
  have hd:=Vj hc1 ob hc2
  simp only[↓eB,seval,go_sem,i0,ob]
  try simp only[A3,A4]
  repeat' first|exact ck|with_reducible apply And.intro|intro _
  all_goals first|exact hI|exact hc1|exact ha.ok|exact hd|(rename_i h;first|exact oI h|exact nah h)|(rename_i _ h _ g;exact sL h g)|decide|omega|(refine A0 [] ?_;simp only[↓eB,seval,go_sem,bne,JI,Gq,hr,arS,smS,shut,adv])
end Go.Proofs.Ytjnnmindcbgjhaa
