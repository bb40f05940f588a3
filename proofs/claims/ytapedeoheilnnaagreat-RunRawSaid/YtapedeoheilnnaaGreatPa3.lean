/- Products and sums, walked. No conditions but those in each statement. -/
import Derived.Test.YtapedeoheilnnaaGreatMi1
set_option linter.all false
set_option maxRecDepth 20000
set_option maxHeartbeats 4000000
namespace Go.Proofs.YtapedeoheilnnaaGreat
open Go Go.Sy Go.RowKit
theorem KZ3{P:Prop}(h:P:=by (repeat' first|exact ck|with_reducible apply And.intro|intro _);all_goals first|exact hI|exact hc1|(exact ha.ok)|(exact hd)|(exact hs2.ok)|(exact hsm)|exact KZ|(refine A1 [] ?_;simp only[seval,go_sem,bne,Qq,Qr,hr,BQ])):P:=h
abbrev A3o(f:Nat)(p:Pr):Prop:=okP p/\dpU f p
abbrev Qq(f:Nat)(p:Pr):SV:=.one (exC (unF f p).1)
abbrev Qr(f:Nat)(p:Pr):List (Option MV):=[some (zPr,[(unF f p).2.c])]
noncomputable abbrev Sv:ArgM ((Pr)×Unit):=(amP (mPr) am0)
abbrev Sw(f:Nat):Prop:=Bv Tryz.prog 118 ((Sv).args 0) (Sv).mem (λp:(Pr)×Unit=>A3o f p.1) (λp:(Pr)×Unit=>Qq f p.1) (λp:(Pr)×Unit=>Qr f p.1)
noncomputable def Oj{X:Ctx}{w0:World}(f:Nat)(h:Sw f):Sy.Spec Tryz.prog X w0:=Cl 118 Tryz.call118 (Sv) _ _ _ KF1 KF0 KF2 h
abbrev sr(f:Nat)(p:Pr):Prop:=okP p/\dpU f p
abbrev Sx(f:Nat)(p:Pr):SV:=.one (exC (Es (unF f) p).1)
abbrev Sz(f:Nat)(p:Pr):List (Option MV):=[some (zPr,[(Es (unF f) p).2.c])]
noncomputable abbrev NK:ArgM ((Pr)×Unit):=(amP (mPr) am0)
abbrev cm(f:Nat):Prop:=Bv Tryz.prog 115 ((NK).args 0) (NK).mem (λp:(Pr)×Unit=>sr f p.1) (λp:(Pr)×Unit=>Sx f p.1) (λp:(Pr)×Unit=>Sz f p.1)
noncomputable def Pc{X:Ctx}{w0:World}(f:Nat)(h:cm f):Sy.Spec Tryz.prog X w0:=Cl 115 Tryz.call115 (NK) _ _ _ KF1 KF0 KF2 h
attribute [local go_sem] Pr.c zTk
theorem iR(f:Nat)(hu:Sw f):cm f:=by
 rintro ⟨p,_u⟩ w M I lab fz xs hc hA hl hx
 refine Aa Tryz.func115 rfl ((NK).mem ⟨p,_u⟩) w M I lab fz [AS,(Oj f hu)] [] ((NK).args 0 ⟨p,_u⟩) ((λp:(Pr)×Unit=>Sz f p.1) ⟨p,_u⟩) ((λp:(Pr)×Unit=>Sx f p.1) ⟨p,_u⟩) xs hA hl hx (λv hv k hk=>by have:=(NK).an 0 ⟨p,_u⟩ v hv k hk;omega) (jN rfl) (jN rfl) ?_
 clear hx hl hA xs
 simp only[Tryz.f115]
 simp only[seval,go_sem,AS,Oj,Ap,Ao,Aq,Ah,Tok.r,Ak,ptR,An,AP,AO,AQ,BR]
 obtain⟨hc1,hc2⟩:=hc
 have hu0:=Ix f p hc1
 refine⟨⟨hc1,hc2⟩,?_⟩
 refine AK (Y:=Nat×Ex×Pr) (λy=>okP y.2.2/\dpU f y.2.2/\(y.2.2.l.length:Int)<=y.2.2.i+(y.1:Int)/\Gr (unF f) y.1 y.2.1 y.2.2=Es (unF f) p)
  (λy=>⟨[(0,true,.one (.p 0 0 0)),(3,true,.one (exC y.2.1))],[(0,.vec 0 zPr [y.2.2.c])]⟩)
  (λy=>y.1) (p.l.length,(unF f p).1,(unF f p).2) ⟨hu0.ok,by show dpU f _;unfold dpU;rw[hu0.d];exact hc2,by have:=hu0.ok.1;simp only[hu0.l];omega,by show Gr _ _ _ _=Es _ _;rfl⟩ (A4 [] ?_) ?_
 .simp only[seval,go_sem]
 rintro ⟨k,a,q⟩ ⟨h1,h2,h3,h4⟩
 refine AZ [AS,Oj f hu] [] _ _ _ ?_
 dsimp only at h1 h2 h3 h4
 have hI:=h1.i
 cases he:(q.e==0) with
 |false=>
  have hr:(a,q)=Es (unF f) p:=by
   rw[<- h4];cases k<;>simp[Gr,he]
  simp only[seval,go_sem,he,AS,Ap,Ao,Aq,Ah,Tok.r,Ak,ptR,An,AP,AO,AQ]
  refine A1 [] ?_;simp only[seval,go_sem,bne,Sx,Sz,<- hr]
 |true=>
 cases i0:isT [42] q with
 |true=>
  obtain⟨k',rfl⟩:∃k',k=k'+1:=⟨k-1,by have:=(B6 i0).2;omega⟩
  simp only[Gr,he,i0,if_true,if_false,jB]at h4
  have ha:=En h1 (B6 i0).2 (B6 i0).1
  have hu1:=Ix f _ ha.ok
  have hai:=Iw h1 (B6 i0).2
  simp only[seval,go_sem,he,i0,AS,BR,Oj,Ap,Ao,Aq,Ah,Tok.r,Ak,ptR,An,AP,AO,AQ]
  refine⟨hI,⟨ha.ok,h2⟩,(k',Ex.mk 4 0 [] a (unF f (adv q)).1,(unF f (adv q)).2),⟨hu1.ok,by show dpU f _;unfold dpU;rw[hu1.d];exact h2,?_,h4⟩,Nat.lt_succ_self _,A4 [.fz 34] ?_⟩
  .dsimp only;have hi1:=hu1.i;rw[hai]at hi1;rw[hu1.l];show (q.l.length:Int)<=_;omega
  simp only[seval,go_sem,adv,EN,BQ,H4]
 |false=>
 cases i1:isT [47] q with
 |true=>
  obtain⟨k',rfl⟩:∃k',k=k'+1:=⟨k-1,by have:=(B6 i1).2;omega⟩
  simp only[Gr,he,i0,i1,if_true,if_false,jB]at h4
  have ha:=En h1 (B6 i1).2 (B6 i1).1
  have hu1:=Ix f _ ha.ok
  have hai:=Iw h1 (B6 i1).2
  simp only[seval,go_sem,he,i0,i1,AS,BR,Oj,Ap,Ao,Aq,Ah,Tok.r,Ak,ptR,An,AP,AO,AQ]
  refine⟨hI,hI,⟨ha.ok,h2⟩,(k',Ex.mk 5 0 [] a (unF f (adv q)).1,(unF f (adv q)).2),⟨hu1.ok,by show dpU f _;unfold dpU;rw[hu1.d];exact h2,?_,h4⟩,Nat.lt_succ_self _,A4 [.fz 34] ?_⟩
  .dsimp only;have hi1:=hu1.i;rw[hai]at hi1;rw[hu1.l];show (q.l.length:Int)<=_;omega
  simp only[seval,go_sem,adv,EN,BQ,H4]
 |false=>
 cases i2:isT [37] q with
 |true=>
  obtain⟨k',rfl⟩:∃k',k=k'+1:=⟨k-1,by have:=(B6 i2).2;omega⟩
  simp only[Gr,he,i0,i1,i2,if_true,if_false,jB]at h4
  have ha:=En h1 (B6 i2).2 (B6 i2).1
  have hu1:=Ix f _ ha.ok
  have hai:=Iw h1 (B6 i2).2
  simp only[seval,go_sem,he,i0,i1,i2,AS,BR,Oj,Ap,Ao,Aq,Ah,Tok.r,Ak,ptR,An,AP,AO,AQ]
  refine⟨hI,hI,hI,⟨ha.ok,h2⟩,(k',Ex.mk 6 0 [] a (unF f (adv q)).1,(unF f (adv q)).2),⟨hu1.ok,by show dpU f _;unfold dpU;rw[hu1.d];exact h2,?_,h4⟩,Nat.lt_succ_self _,A4 [.fz 34] ?_⟩
  .dsimp only;have hi1:=hu1.i;rw[hai]at hi1;rw[hu1.l];show (q.l.length:Int)<=_;omega
  simp only[seval,go_sem,adv,EN,BQ,H4]
 |false=>
 have hr:(a,q)=Es (unF f) p:=by
  rw[<- h4];cases k<;>simp[Gr,he,i0,i1,i2]
 simp only[seval,go_sem,he,i0,i1,i2,AS,BR,Ap,Ao,Aq,Ah,Tok.r,Ak,ptR,An,AP,AO,AQ]
 refine⟨hI,hI,hI,?_⟩
 refine A1 [] ?_;simp only[seval,go_sem,bne,Sx,Sz,<- hr]
abbrev yI(f:Nat)(p:Pr):Prop:=okP p/\dpU f p
abbrev VH(f:Nat)(p:Pr):SV:=.one (exC (Jz (unF f) p).1)
abbrev VI(f:Nat)(p:Pr):List (Option MV):=[some (zPr,[(Jz (unF f) p).2.c])]
noncomputable abbrev Pd:ArgM ((Pr)×Unit):=(amP (mPr) am0)
abbrev ZW(f:Nat):Prop:=Bv Tryz.prog 96 ((Pd).args 0) (Pd).mem (λp:(Pr)×Unit=>yI f p.1) (λp:(Pr)×Unit=>VH f p.1) (λp:(Pr)×Unit=>VI f p.1)
noncomputable def Dp{X:Ctx}{w0:World}(f:Nat)(h:ZW f):Sy.Spec Tryz.prog X w0:=Cl 96 Tryz.call96 (Pd) _ _ _ KF1 KF0 KF2 h
theorem qL(f:Nat)(hu:Sw f):ZW f:=by
 rintro ⟨p,_u⟩ w M I lab fz xs hc hA hl hx
 refine Aa Tryz.func96 rfl ((Pd).mem ⟨p,_u⟩) w M I lab fz [AS,(Pc f (iR f hu))] [] ((Pd).args 0 ⟨p,_u⟩) ((λp:(Pr)×Unit=>VI f p.1) ⟨p,_u⟩) ((λp:(Pr)×Unit=>VH f p.1) ⟨p,_u⟩) xs hA hl hx (λv hv k hk=>by have:=(Pd).an 0 ⟨p,_u⟩ v hv k hk;omega) (jN rfl) (jN rfl) ?_
 clear hx hl hA xs
 simp only[Tryz.f96]
 simp only[seval,go_sem,AS,Pc,Ap,Ao,Aq,Ah,Tok.r,Ak,ptR,An,AP,AO,AQ,BR]
 obtain⟨hc1,hc2⟩:=hc
 have hu0:=Gc (Ix f) p hc1
 refine⟨⟨hc1,hc2⟩,?_⟩
 refine AK (Y:=Nat×Ex×Pr) (λy=>okP y.2.2/\dpU f y.2.2/\(y.2.2.l.length:Int)<=y.2.2.i+(y.1:Int)/\Jy (unF f) y.1 y.2.1 y.2.2=Jz (unF f) p)
  (λy=>⟨[(0,true,.one (.p 0 0 0)),(3,true,.one (exC y.2.1))],[(0,.vec 0 zPr [y.2.2.c])]⟩)
  (λy=>y.1) (p.l.length,(Es (unF f) p).1,(Es (unF f) p).2) ⟨hu0.ok,by show dpU f _;unfold dpU;rw[hu0.d];exact hc2,by have:=hu0.ok.1;simp only[hu0.l];omega,by show Jy _ _ _ _=Jz _ _;rfl⟩ (A4 [] ?_) ?_
 .simp only[seval,go_sem]
 rintro ⟨k,a,q⟩ ⟨h1,h2,h3,h4⟩
 refine AZ [AS,Pc f (iR f hu)] [] _ _ _ ?_
 dsimp only at h1 h2 h3 h4
 have hI:=h1.i
 cases he:(q.e==0) with
 |false=>
  have hr:(a,q)=Jz (unF f) p:=by
   rw[<- h4];cases k<;>simp[Jy,he]
  simp only[seval,go_sem,he,AS,Ap,Ao,Aq,Ah,Tok.r,Ak,ptR,An,AP,AO,AQ]
  refine A1 [] ?_;simp only[seval,go_sem,bne,VH,VI,<- hr]
 |true=>
 cases i0:isT [45] q with
 |true=>
  obtain⟨k',rfl⟩:∃k',k=k'+1:=⟨k-1,by have:=(B6 i0).2;omega⟩
  simp only[Jy,he,i0,if_true,if_false,jB]at h4
  have ha:=En h1 (B6 i0).2 (B6 i0).1
  have hu1:=Gc (Ix f) _ ha.ok
  have hai:=Iw h1 (B6 i0).2
  simp only[seval,go_sem,he,i0,AS,BR,Pc,Ap,Ao,Aq,Ah,Tok.r,Ak,ptR,An,AP,AO,AQ]
  refine⟨hI,⟨ha.ok,h2⟩,(k',Ex.mk 3 0 [] a (Es (unF f) (adv q)).1,(Es (unF f) (adv q)).2),⟨hu1.ok,by show dpU f _;unfold dpU;rw[hu1.d];exact h2,?_,h4⟩,Nat.lt_succ_self _,A4 [.fz 30] ?_⟩
  .dsimp only;have hi1:=hu1.i;rw[hai]at hi1;rw[hu1.l];show (q.l.length:Int)<=_;omega
  simp only[seval,go_sem,adv,EN,BQ,H4]
 |false=>
 cases i1:isT [43] q with
 |true=>
  obtain⟨k',rfl⟩:∃k',k=k'+1:=⟨k-1,by have:=(B6 i1).2;omega⟩
  simp only[Jy,he,i0,i1,if_true,if_false,jB]at h4
  have ha:=En h1 (B6 i1).2 (B6 i1).1
  have hu1:=Gc (Ix f) _ ha.ok
  have hai:=Iw h1 (B6 i1).2
  simp only[seval,go_sem,he,i0,i1,AS,BR,Pc,Ap,Ao,Aq,Ah,Tok.r,Ak,ptR,An,AP,AO,AQ]
  refine⟨hI,hI,⟨ha.ok,h2⟩,(k',Ex.mk 2 0 [] a (Es (unF f) (adv q)).1,(Es (unF f) (adv q)).2),⟨hu1.ok,by show dpU f _;unfold dpU;rw[hu1.d];exact h2,?_,h4⟩,Nat.lt_succ_self _,A4 [.fz 30] ?_⟩
  .dsimp only;have hi1:=hu1.i;rw[hai]at hi1;rw[hu1.l];show (q.l.length:Int)<=_;omega
  simp only[seval,go_sem,adv,EN,BQ,H4]
 |false=>
 have hr:(a,q)=Jz (unF f) p:=by
  rw[<- h4];cases k<;>simp[Jy,he,i0,i1]
 simp only[seval,go_sem,he,i0,i1,AS,BR,Ap,Ao,Aq,Ah,Tok.r,Ak,ptR,An,AP,AO,AQ]
 refine⟨hI,hI,?_⟩
 refine A1 [] ?_;simp only[seval,go_sem,bne,VH,VI,<- hr]
attribute[local go_sem] Tok.r Ak Aq AP Ap Ao AQ ptR An AO Ah Dp Oj A9 AS AG A7 J7 AL AC BR AM I4 in
theorem A3p(f:Nat)(hu:Sw f)(hs:ZW f):Sw (f+1):=by
 rintro ⟨p,_u⟩ w M I lab fz xs hc hA hl hx
 refine Aa Tryz.func118 rfl ((Sv).mem ⟨p,_u⟩) w M I lab fz [AS,A7,AL,A9,AC,AG,J7,(Oj f hu),(Dp f hs)] [] ((Sv).args 0 ⟨p,_u⟩) ((λp:(Pr)×Unit=>Qr (f+1) p.1) ⟨p,_u⟩) ((λp:(Pr)×Unit=>Qq (f+1) p.1) ⟨p,_u⟩) xs hA hl hx (λv hv k hk=>by have:=(Sv).an 0 ⟨p,_u⟩ v hv k hk;omega) (jN rfl) (jN rfl) ?_
 clear hx hl hA xs
 simp only[Tryz.f118]
 obtain⟨hc1,hc2⟩:=hc
 have hI:=hc1.i
 cases ho1:(p.e != 0) with
 |true=>
  have hr:unF (f+1) p=(.nil,D6 51 p):=by simp[unF,outB,ho1]
  simp only[seval,go_sem,ho1]
  try simp only[A2,A3]
  try exact KZ3
 |false=>
 cases ho2:decide ((p.l.length:Int)<=p.i) with
 |true=>
  have hr:unF (f+1) p=(.nil,D6 51 p):=by simp[unF,outB,ho1,ho2]
  simp only[seval,go_sem,ho1,ho2]
  try simp only[A2,A3]
  try exact KZ3
 |false=>
 have ho:outB p=false:=by unfold outB;rw[ho1,ho2];rfl
 have he:p.e=0:=by simpa using ho1
 have hlt:p.i<(p.l.length:Int):=by simpa using ho2
 have hlt':(p.i<(p.l.length:Int))=True:=by simp[hlt]
 have h0':(0<=p.i)=True:=by simp[hc1.1]
 cases i0:isT [45] p with
 |true=>
  cases ob:FU p with
  |false=>
   have hr:unF (f+1) p=(.nil,C9 p):=by simp[unF,ho,i0,ob]
   simp only[seval,go_sem,ho1,ho2,i0,ob]
   try simp only[A2,A3]
   try exact KZ3
  |true=>
  have hr:unF (f+1) p=(.mk 7 0 [] (unF f (adv (C9 p))).1 .nil,shut (unF f (adv (C9 p))).2):=by simp[unF,ho,i0,ob]
  have ha:=EY hc1 ob hlt
  have hd:dpU f (adv (C9 p)):=by
   have h3:=(Qb hc1 ob).2.2
   show 41<=(C9 p).deep+(f:Int)
   rw[h3];have:41<=p.deep+((f+1:Nat):Int):=hc2;simp only;omega
  simp only[seval,go_sem,ho1,ho2,i0,ob]
  try simp only[A2,A3]
  repeat' first|exact ck|with_reducible apply And.intro|intro _
  all_goals first|exact hI|exact hc1|(exact ha.ok)|(exact hd)|(exact hs2.ok)|(exact hsm)|exact KZ|(refine A1 [.fz 51] ?_;simp only[seval,go_sem,bne,Qq,Qr,hr,BQ,EN,H4,shut,adv])
 |false=>
 cases i1:isT [40] p with
 |true=>
  cases ob:FU p with
  |false=>
   have hr:unF (f+1) p=(.nil,C9 p):=by simp[unF,ho,i0,i1,ob]
   simp only[seval,go_sem,ho1,ho2,i0,i1,ob]
   try simp only[A2,A3]
   try exact KZ3
  |true=>
  have hr:unF (f+1) p=((Jz (unF f) (adv (C9 p))).1,shut (BW [41] (Jz (unF f) (adv (C9 p))).2)):=by simp[unF,ho,i0,i1,ob]
  have ha:=EY hc1 ob hlt
  have hd:dpU f (adv (C9 p)):=by
   have h3:=(Qb hc1 ob).2.2
   show 41<=(C9 p).deep+(f:Int)
   rw[h3];have:41<=p.deep+((f+1:Nat):Int):=hc2;simp only;omega
  have hs2:=Sn (Ix f) _ ha.ok
  simp only[seval,go_sem,ho1,ho2,i0,i1,ob]
  try simp only[A2,A3]
  repeat' first|exact ck|with_reducible apply And.intro|intro _
  all_goals first|exact hI|exact hc1|(exact ha.ok)|(exact hd)|(exact hs2.ok)|(exact hsm)|exact KZ|(refine A1 [] ?_;simp only[seval,go_sem,bne,Qq,Qr,hr,shut,adv])
 |false=>
 cases i2:((tk p).k==1) with
 |true=>
  have hr:unF (f+1) p=(.mk 0 (numW (tk p).t 0) [] .nil .nil,adv p):=by simp[unF,ho,i0,i1,i2]
  have e1:=cN hc1 hlt
  have hsm:=xQ hc1 hlt
  simp only[tk]at i2 hsm
  simp only[w64i]at e1
  simp only[seval,go_sem,ho1,ho2,i0,i1,i2,e1,hlt',h0']
  try simp only[A2,A3]
  repeat' first|exact ck|with_reducible apply And.intro|intro _
  all_goals first|exact hI|exact hc1|(exact ha.ok)|(exact hd)|(exact hs2.ok)|(exact hsm)|exact KZ|(refine A1 [.fz 111] ?_;simp only[seval,go_sem,bne,Qq,Qr,hr,adv,BQ,EN,H4,tk])
 |false=>
 have i2':=i2
 simp only[tk]at i2'
 cases i3:nameB p with
 |true=>
  have hr:unF (f+1) p=(.mk 1 0 (Dy p) .nil .nil,C4 p):=by simp[unF,ho,i0,i1,i2,i3]
  simp only[seval,go_sem,ho1,ho2,i0,i1,i2',i3,hlt',h0']
  try simp only[A2,A3]
  repeat' first|exact ck|with_reducible apply And.intro|intro _
  all_goals first|exact hI|exact hc1|(exact ha.ok)|(exact hd)|(exact hs2.ok)|(exact hsm)|exact KZ|(refine A1 [.fz 118] ?_;simp only[seval,go_sem,bne,Qq,Qr,hr,BQ,EN,H4])
 |false=>
 have hr:unF (f+1) p=(.nil,D6 51 p):=by simp[unF,ho,i0,i1,i2,i3]
 simp only[seval,go_sem,ho1,ho2,i0,i1,i2',i3,hlt',h0']
 try simp only[A2,A3]
 try exact KZ3
theorem mc:∀f:Nat,Sw f
 |0=>by
  rintro ⟨p,_u⟩ w M I lab fz xs hc hA hl hx
  obtain⟨h1,h2⟩:=hc
  have h3:p.deep<=40:=h1.2.2.2.2.1
  have h4:41<=p.deep+((0:Nat):Int):=h2
  exact absurd h4 (by simp;omega)
 |f+1=>A3p f (mc f) (qL f (mc f))
end Go.Proofs.YtapedeoheilnnaaGreat
