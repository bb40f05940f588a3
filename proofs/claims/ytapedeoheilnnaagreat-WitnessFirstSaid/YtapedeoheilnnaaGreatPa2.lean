/- The parser's functions up to sums, walked. No conditions but those in each statement. -/
import Derived.Test.YtapedeoheilnnaaGreatPa1
set_option linter.all false
set_option maxRecDepth 20000
set_option maxHeartbeats 4000000
namespace Go.Proofs.YtapedeoheilnnaaGreat
open Go Go.Sy Go.RowKit
theorem YM{P:Prop}(h:P:=by dsimp only;have hi1:=hu1.i;rw[hai]at hi1;rw[hu1.l];show (q.l.length:Int)<=_;omega):P:=h
theorem Ye{P:Prop}(h:P:=by
 rintro ⟨p,_u⟩ w M I lab fz xs hc hA hl hx
 obtain⟨h1,h2⟩:=hc
 have h3:p.deep<=40:=h1.2.2.2.2.1
 have h4:41<=p.deep+((0:Nat):Int):=h2
 exact absurd h4 (by simp;omega)):P:=h
theorem AAv{P:Prop}(h:P:=by
 have h3:=(Qv hc1 ob).2.2
 show 41<=(CO p).deep+(f:Int)
 rw[h3];have:41<=p.deep+((f+1:Nat):Int):=hc2;simp only;omega):P:=h
theorem AA5{P:Prop}(h:P:=by
 try simp only[AD,AE]
 try exact KZ1):P:=h
theorem ABC{P:Prop}(h:P:=by simp only[seval,go_sem,adv,EU,Af,HI]):P:=h
theorem KZ1{P:Prop}(h:P:=by (repeat' first|exact ck|with_reducible apply And.intro|intro _);all_goals first|exact hI|exact hc1|(exact ha.ok)|(exact hd)|(exact hs2.ok)|(exact hsm)|exact KZ|(refine A1 [] ?_;simp only[seval,go_sem,bne,R3,R4,hr,Af])):P:=h
theorem AQ(l:List Tok)(i en e at' deep n:Int):rPr.d [.sl [D.v (Value.int IntKind.i64 0),D.v (Value.string (bs [])),D.v (Value.int IntKind.i64 0)] (l.map Tok.r),.v (.int .i64 i),.v (.int .i64 en),.v (.int .i64 e),.v (.int .i64 at'),.v (.int .i64 deep),.v (.int .i64 n)]=some ⟨l,i,en,e,at',deep,n⟩:=As l i en e at' deep n
theorem AR(l:List Tok)(i en e at' deep n:Int):mPr.d [.d (.sl [D.v (Value.int IntKind.i64 0),D.v (Value.string (bs [])),D.v (Value.int IntKind.i64 0)] (l.map Tok.r)),.v (.int .i64 i),.v (.int .i64 en),.v (.int .i64 e),.v (.int .i64 at'),.v (.int .i64 deep),.v (.int .i64 n)]=some ⟨l,i,en,e,at',deep,n⟩:=Aw l i en e at' deep n
abbrev sn(p:Pr)(t:List UInt8):Prop:=okP p
abbrev Wc(p:Pr)(t:List UInt8):SV:=.one (.v (.bool (isT t p)))
abbrev Wd(p:Pr)(t:List UInt8):List (Option MV):=[some (zPr,[(Bt t p).c])]
noncomputable abbrev NI:ArgM ((Pr)×(List UInt8)×Unit):=(amP (mPr) (amD (cStr) am0))
abbrev sq:Prop:=C7 Tryz.prog 57 ((NI).args 0) (NI).mem (λp:(Pr)×(List UInt8)×Unit=>sn p.1 p.2.1) (λp:(Pr)×(List UInt8)×Unit=>Wc p.1 p.2.1) (λp:(Pr)×(List UInt8)×Unit=>Wd p.1 p.2.1)
section
attribute [local go_sem] Pr.c Tok.r Ao Aw AR Av Au AS ptR As AQ Al zTk
theorem yD:sq:=by
 rintro ⟨p,t,_u⟩ w M I lab fz xs hc hA hl hx
 refine Ac Tryz.func57 rfl ((NI).mem ⟨p,t,_u⟩) w M I lab fz [AV] [] ((NI).args 0 ⟨p,t,_u⟩) ((λp:(Pr)×(List UInt8)×Unit=>Wd p.1 p.2.1) ⟨p,t,_u⟩) ((λp:(Pr)×(List UInt8)×Unit=>Wc p.1 p.2.1) ⟨p,t,_u⟩) xs hA hl hx (λv hv k hk=>by have:=(NI).an 0 ⟨p,t,_u⟩ v hv k hk;omega) (jN rfl) (jN rfl) ?_
 clear hx hl hA xs
 simp only[Tryz.f57]
 simp only[seval,go_sem,AV,Bb]
 try simp only[AD,AE]
 repeat' first|exact ck|with_reducible apply And.intro|intro _
 all_goals try simp only[bne,Bool.not_eq_true',Bool.not_eq_false',Bool.not_not] at*
 all_goals first
  |(exact hc.i;done)
  |(refine A1 [] ?_;simp only[seval,go_sem,bne,Wc,Wd,Bt,adv];first|done|(simp only[*,if_true,if_false,jB,Bool.true_or,Bool.or_true,Bool.false_or,Bool.or_false,Bool.and_false,Bool.false_and,Bool.true_and,Bool.and_true,Bool.not_true,Bool.not_false,Bool.or_self,Bool.and_self,Int.reduceEq,Int.reduceNeg,Nat.reduceEqDiff,reduceCtorEq,MI,MJ,Gt,Hv,and_self,↓reduceIte];done)|(simp_all [Bt,adv];done))
  |omega
  |(simp only[decide_eq_true_eq,decide_eq_false_iff_not]at *;omega)
  |(simp_all [Bt,adv];done)
  |(simp_all [Bt,adv];omega)
  |trace_state
noncomputable def A6{X:Ctx}{w0:World}:Sy.Spec Tryz.prog X w0:=D0 57 Tryz.call57 (NI) _ _ _ KF1 KF0 KF4 yD
abbrev sr(p:Pr)(t:List UInt8):Prop:=okP p
abbrev We(p:Pr)(t:List UInt8):SV:=.tup []
abbrev Wf(p:Pr)(t:List UInt8):List (Option MV):=[some (zPr,[(Bd t p).c])]
noncomputable abbrev NJ:ArgM ((Pr)×(List UInt8)×Unit):=(amP (mPr) (amD (cStr) am0))
abbrev ss:Prop:=C7 Tryz.prog 58 ((NJ).args 0) (NJ).mem (λp:(Pr)×(List UInt8)×Unit=>sr p.1 p.2.1) (λp:(Pr)×(List UInt8)×Unit=>We p.1 p.2.1) (λp:(Pr)×(List UInt8)×Unit=>Wf p.1 p.2.1)
theorem yE:ss:=by
 rintro ⟨p,t,_u⟩ w M I lab fz xs hc hA hl hx
 refine Ac Tryz.func58 rfl ((NJ).mem ⟨p,t,_u⟩) w M I lab fz [A6,AB] [] ((NJ).args 0 ⟨p,t,_u⟩) ((λp:(Pr)×(List UInt8)×Unit=>Wf p.1 p.2.1) ⟨p,t,_u⟩) ((λp:(Pr)×(List UInt8)×Unit=>We p.1 p.2.1) ⟨p,t,_u⟩) xs hA hl hx (λv hv k hk=>by have:=(NJ).an 0 ⟨p,t,_u⟩ v hv k hk;omega) (jN rfl) (jN rfl) ?_
 clear hx hl hA xs
 simp only[Tryz.f58]
 simp only[seval,go_sem,A6,AB]
 try simp only[AD,AE]
 repeat' first|exact ck|with_reducible apply And.intro|intro _
 all_goals try simp only[bne,Bool.not_eq_true',Bool.not_eq_false',Bool.not_not] at*
 all_goals first
  |(exact hc;done)
  |((have h:=okP.i hc;simp_all [Bt]);done)
  |(refine A1 [] ?_;simp only[seval,go_sem,bne,We,Wf,Bd,Bt];first|done|(simp only[*,if_true,if_false,jB,Bool.true_or,Bool.or_true,Bool.false_or,Bool.or_false,Bool.and_false,Bool.false_and,Bool.true_and,Bool.and_true,Bool.not_true,Bool.not_false,Bool.or_self,Bool.and_self,Int.reduceEq,Int.reduceNeg,Nat.reduceEqDiff,reduceCtorEq,MI,MJ,Gt,Hv,and_self,↓reduceIte];done)|(simp_all [Bd,Bt];done))
  |omega
  |(simp only[decide_eq_true_eq,decide_eq_false_iff_not]at *;omega)
  |(simp_all [Bd,Bt];done)
  |(simp_all [Bd,Bt];omega)
  |trace_state
noncomputable def AG{X:Ctx}{w0:World}:Sy.Spec Tryz.prog X w0:=D0 58 Tryz.call58 (NJ) _ _ _ KF1 KF0 KF4 yE
abbrev su(p:Pr):Prop:=okP p
abbrev Wg(p:Pr):SV:=.one (.v (.string (bs (E3 p))))
abbrev Wh(p:Pr):List (Option MV):=[some (zPr,[(CI p).c])]
noncomputable abbrev NK:ArgM ((Pr)×Unit):=(amP (mPr) am0)
abbrev sw:Prop:=C7 Tryz.prog 61 ((NK).args 0) (NK).mem (λp:(Pr)×Unit=>su p.1) (λp:(Pr)×Unit=>Wg p.1) (λp:(Pr)×Unit=>Wh p.1)
theorem yF:sw:=by
 rintro ⟨p,_u⟩ w M I lab fz xs hc hA hl hx
 refine Ac Tryz.func61 rfl ((NK).mem ⟨p,_u⟩) w M I lab fz [A7,AB] [] ((NK).args 0 ⟨p,_u⟩) ((λp:(Pr)×Unit=>Wh p.1) ⟨p,_u⟩) ((λp:(Pr)×Unit=>Wg p.1) ⟨p,_u⟩) xs hA hl hx (λv hv k hk=>by have:=(NK).an 0 ⟨p,_u⟩ v hv k hk;omega) (jN rfl) (jN rfl) ?_
 clear hx hl hA xs
 simp only[Tryz.f61]
 rcases ig hc with⟨hb,e1,e2,e3⟩|⟨hb,e1,e2,e3⟩
 all_goals simp only[seval,go_sem,A7,AB,AO,hb,e1,e2,e3]
 all_goals
  try simp only[AD,AE]
  repeat' first|exact ck|with_reducible apply And.intro|intro _
  all_goals try simp only[bne,Bool.not_eq_true',Bool.not_eq_false',Bool.not_not] at*
  all_goals first
   |(exact hc.i;done)
   |(refine A1 [] ?_;simp only[seval,go_sem,bne,Wg,Wh,E3,CI,adv,hb,tk];first|done|(simp only[*,if_true,if_false,jB,Bool.true_or,Bool.or_true,Bool.false_or,Bool.or_false,Bool.and_false,Bool.false_and,Bool.true_and,Bool.and_true,Bool.not_true,Bool.not_false,Bool.or_self,Bool.and_self,Int.reduceEq,Int.reduceNeg,Nat.reduceEqDiff,reduceCtorEq,MI,MJ,Gt,Hv,and_self,↓reduceIte];done)|(simp_all [E3,CI,adv];done))
   |omega
   |(simp only[decide_eq_true_eq,decide_eq_false_iff_not]at *;omega)
   |(simp_all [E3,CI,adv];done)
   |(simp_all [E3,CI,adv];omega)
   |trace_state
noncomputable def AJ{X:Ctx}{w0:World}:Sy.Spec Tryz.prog X w0:=D0 61 Tryz.call61 (NK) _ _ _ KF1 KF0 KF4 yF
abbrev sx(p:Pr):Prop:=okP p
abbrev Wi(p:Pr):SV:=.one (.v (.bool (Fh p)))
abbrev Wj(p:Pr):List (Option MV):=[some (zPr,[(CO p).c])]
noncomputable abbrev NL:ArgM ((Pr)×Unit):=(amP (mPr) am0)
abbrev sy:Prop:=C7 Tryz.prog 65 ((NL).args 0) (NL).mem (λp:(Pr)×Unit=>sx p.1) (λp:(Pr)×Unit=>Wi p.1) (λp:(Pr)×Unit=>Wj p.1)
theorem yG:sy:=by
 rintro ⟨p,_u⟩ w M I lab fz xs hc hA hl hx
 refine Ac Tryz.func65 rfl ((NL).mem ⟨p,_u⟩) w M I lab fz [AB] [] ((NL).args 0 ⟨p,_u⟩) ((λp:(Pr)×Unit=>Wj p.1) ⟨p,_u⟩) ((λp:(Pr)×Unit=>Wi p.1) ⟨p,_u⟩) xs hA hl hx (λv hv k hk=>by have:=(NL).an 0 ⟨p,_u⟩ v hv k hk;omega) (jN rfl) (jN rfl) ?_
 clear hx hl hA xs
 simp only[Tryz.f65]
 simp only[seval,go_sem,AB]
 try simp only[AD,AE]
 repeat' first|exact ck|with_reducible apply And.intro|intro _
 all_goals try simp only[bne,Bool.not_eq_true',Bool.not_eq_false',Bool.not_not] at*
 all_goals first
  |(exact hc.i;done)
  |(refine A1 [] ?_;simp only[seval,go_sem,bne,Wi,Wj,Fh,CO];first|done|(simp only[*,if_true,if_false,jB,Bool.true_or,Bool.or_true,Bool.false_or,Bool.or_false,Bool.and_false,Bool.false_and,Bool.true_and,Bool.and_true,Bool.not_true,Bool.not_false,Bool.or_self,Bool.and_self,Int.reduceEq,Int.reduceNeg,Nat.reduceEqDiff,reduceCtorEq,MI,MJ,Gt,Hv,and_self,↓reduceIte];done)|(simp_all [Fh,CO];done))
  |omega
  |(simp only[decide_eq_true_eq,decide_eq_false_iff_not]at *;omega)
  |(simp_all [Fh,CO];done)
  |(simp_all [Fh,CO];omega)
  |trace_state
noncomputable def AN{X:Ctx}{w0:World}:Sy.Spec Tryz.prog X w0:=D0 65 Tryz.call65 (NL) _ _ _ KF1 KF0 KF4 yG
end
open Go Go.Sy Go.RowKit
abbrev A3x(f:Nat)(p:Pr):Prop:=okP p/\dpU f p
abbrev R3(f:Nat)(p:Pr):SV:=.one (exC (unF f p).1)
abbrev R4(f:Nat)(p:Pr):List (Option MV):=[some (zPr,[(unF f p).2.c])]
noncomputable abbrev TC:ArgM ((Pr)×Unit):=(amP (mPr) am0)
abbrev TD(f:Nat):Prop:=C7 Tryz.prog 118 ((TC).args 0) (TC).mem (λp:(Pr)×Unit=>A3x f p.1) (λp:(Pr)×Unit=>R3 f p.1) (λp:(Pr)×Unit=>R4 f p.1)
noncomputable def P1{X:Ctx}{w0:World}(f:Nat)(h:TD f):Sy.Spec Tryz.prog X w0:=D0 118 Tryz.call118 (TC) _ _ _ KF1 KF0 KF4 h
abbrev tV(f:Nat)(p:Pr):Prop:=okP p/\dpU f p
abbrev TE(f:Nat)(p:Pr):SV:=.one (exC (F2 (unF f) p).1)
abbrev TF(f:Nat)(p:Pr):List (Option MV):=[some (zPr,[(F2 (unF f) p).2.c])]
noncomputable abbrev NT:ArgM ((Pr)×Unit):=(amP (mPr) am0)
abbrev dK(f:Nat):Prop:=C7 Tryz.prog 115 ((NT).args 0) (NT).mem (λp:(Pr)×Unit=>tV f p.1) (λp:(Pr)×Unit=>TE f p.1) (λp:(Pr)×Unit=>TF f p.1)
noncomputable def Q1{X:Ctx}{w0:World}(f:Nat)(h:dK f):Sy.Spec Tryz.prog X w0:=D0 115 Tryz.call115 (NT) _ _ _ KF1 KF0 KF4 h
attribute [local go_sem] Pr.c zTk
theorem jA(f:Nat)(hu:TD f):dK f:=by
 rintro ⟨p,_u⟩ w M I lab fz xs hc hA hl hx
 refine Ac Tryz.func115 rfl ((NT).mem ⟨p,_u⟩) w M I lab fz [AV,(P1 f hu)] [] ((NT).args 0 ⟨p,_u⟩) ((λp:(Pr)×Unit=>TF f p.1) ⟨p,_u⟩) ((λp:(Pr)×Unit=>TE f p.1) ⟨p,_u⟩) xs hA hl hx (λv hv k hk=>by have:=(NT).an 0 ⟨p,_u⟩ v hv k hk;omega) (jN rfl) (jN rfl) ?_
 clear hx hl hA xs
 simp only[Tryz.f115]
 simp only[seval,go_sem,AV,P1,Av,Au,Aw,Al,Tok.r,Ao,ptR,As,AR,AQ,AS,Bb]
 obtain⟨hc1,hc2⟩:=hc
 have hu0:=JA f p hc1
 refine⟨⟨hc1,hc2⟩,?_⟩
 refine AC (Y:=Nat×Ex×Pr) (λy=>okP y.2.2/\dpU f y.2.2/\(y.2.2.l.length:Int)<=y.2.2.i+(y.1:Int)/\HB (unF f) y.1 y.2.1 y.2.2=F2 (unF f) p)
  (λy=>⟨[(0,true,.one (.p 0 0 0)),(3,true,.one (exC y.2.1))],[(0,.vec 0 zPr [y.2.2.c])]⟩)
  (λy=>y.1) (p.l.length,(unF f p).1,(unF f p).2) ⟨hu0.ok,by show dpU f _;unfold dpU;rw[hu0.d];exact hc2,by have:=hu0.ok.1;simp only[hu0.l];omega,by show HB _ _ _ _=F2 _ _;rfl⟩ (A2 [] ?_) ?_
 .simp only[seval,go_sem]
 rintro ⟨k,a,q⟩ ⟨h1,h2,h3,h4⟩
 refine AP [AV,P1 f hu] [] _ _ _ ?_
 dsimp only at h1 h2 h3 h4
 have hI:=h1.i
 cases he:(q.e==0) with
 |false=>
  have hr:(a,q)=F2 (unF f) p:=by
   rw[<- h4];cases k<;>simp[HB,he]
  simp only[seval,go_sem,he,AV,Av,Au,Aw,Al,Tok.r,Ao,ptR,As,AR,AQ,AS]
  refine A1 [] ?_;simp only[seval,go_sem,bne,TE,TF,<- hr]
 |true=>
 cases i0:isT [42] q with
 |true=>
  obtain⟨k',rfl⟩:∃k',k=k'+1:=⟨k-1,by have:=(BA i0).2;omega⟩
  simp only[HB,he,i0,if_true,if_false,jB]at h4
  have ha:=Ey h1 (BA i0).2 (BA i0).1
  have hu1:=JA f _ ha.ok
  have hai:=J9 h1 (BA i0).2
  simp only[seval,go_sem,he,i0,AV,Bb,P1,Av,Au,Aw,Al,Tok.r,Ao,ptR,As,AR,AQ,AS]
  refine⟨hI,⟨ha.ok,h2⟩,(k',Ex.mk 4 0 [] a (unF f (adv q)).1,(unF f (adv q)).2),⟨hu1.ok,by show dpU f _;unfold dpU;rw[hu1.d];exact h2,?_,h4⟩,Nat.lt_succ_self _,A2 [.fz 34] ?_⟩
  .exact YM
  exact ABC
 |false=>
 cases i1:isT [47] q with
 |true=>
  obtain⟨k',rfl⟩:∃k',k=k'+1:=⟨k-1,by have:=(BA i1).2;omega⟩
  simp only[HB,he,i0,i1,if_true,if_false,jB]at h4
  have ha:=Ey h1 (BA i1).2 (BA i1).1
  have hu1:=JA f _ ha.ok
  have hai:=J9 h1 (BA i1).2
  simp only[seval,go_sem,he,i0,i1,AV,Bb,P1,Av,Au,Aw,Al,Tok.r,Ao,ptR,As,AR,AQ,AS]
  refine⟨hI,hI,⟨ha.ok,h2⟩,(k',Ex.mk 5 0 [] a (unF f (adv q)).1,(unF f (adv q)).2),⟨hu1.ok,by show dpU f _;unfold dpU;rw[hu1.d];exact h2,?_,h4⟩,Nat.lt_succ_self _,A2 [.fz 34] ?_⟩
  .exact YM
  exact ABC
 |false=>
 cases i2:isT [37] q with
 |true=>
  obtain⟨k',rfl⟩:∃k',k=k'+1:=⟨k-1,by have:=(BA i2).2;omega⟩
  simp only[HB,he,i0,i1,i2,if_true,if_false,jB]at h4
  have ha:=Ey h1 (BA i2).2 (BA i2).1
  have hu1:=JA f _ ha.ok
  have hai:=J9 h1 (BA i2).2
  simp only[seval,go_sem,he,i0,i1,i2,AV,Bb,P1,Av,Au,Aw,Al,Tok.r,Ao,ptR,As,AR,AQ,AS]
  refine⟨hI,hI,hI,⟨ha.ok,h2⟩,(k',Ex.mk 6 0 [] a (unF f (adv q)).1,(unF f (adv q)).2),⟨hu1.ok,by show dpU f _;unfold dpU;rw[hu1.d];exact h2,?_,h4⟩,Nat.lt_succ_self _,A2 [.fz 34] ?_⟩
  .exact YM
  exact ABC
 |false=>
 have hr:(a,q)=F2 (unF f) p:=by
  rw[<- h4];cases k<;>simp[HB,he,i0,i1,i2]
 simp only[seval,go_sem,he,i0,i1,i2,AV,Bb,Av,Au,Aw,Al,Tok.r,Ao,ptR,As,AR,AQ,AS]
 refine⟨hI,hI,hI,?_⟩
 refine A1 [] ?_;simp only[seval,go_sem,bne,TE,TF,<- hr]
abbrev yk(f:Nat)(p:Pr):Prop:=okP p/\dpU f p
abbrev VZ(f:Nat)(p:Pr):SV:=.one (exC (K7 (unF f) p).1)
abbrev Vb(f:Nat)(p:Pr):List (Option MV):=[some (zPr,[(K7 (unF f) p).2.c])]
noncomputable abbrev Q3:ArgM ((Pr)×Unit):=(amP (mPr) am0)
abbrev Zs(f:Nat):Prop:=C7 Tryz.prog 96 ((Q3).args 0) (Q3).mem (λp:(Pr)×Unit=>yk f p.1) (λp:(Pr)×Unit=>VZ f p.1) (λp:(Pr)×Unit=>Vb f p.1)
noncomputable def Dy{X:Ctx}{w0:World}(f:Nat)(h:Zs f):Sy.Spec Tryz.prog X w0:=D0 96 Tryz.call96 (Q3) _ _ _ KF1 KF0 KF4 h
theorem qj(f:Nat)(hu:TD f):Zs f:=by
 rintro ⟨p,_u⟩ w M I lab fz xs hc hA hl hx
 refine Ac Tryz.func96 rfl ((Q3).mem ⟨p,_u⟩) w M I lab fz [AV,(Q1 f (jA f hu))] [] ((Q3).args 0 ⟨p,_u⟩) ((λp:(Pr)×Unit=>Vb f p.1) ⟨p,_u⟩) ((λp:(Pr)×Unit=>VZ f p.1) ⟨p,_u⟩) xs hA hl hx (λv hv k hk=>by have:=(Q3).an 0 ⟨p,_u⟩ v hv k hk;omega) (jN rfl) (jN rfl) ?_
 clear hx hl hA xs
 simp only[Tryz.f96]
 simp only[seval,go_sem,AV,Q1,Av,Au,Aw,Al,Tok.r,Ao,ptR,As,AR,AQ,AS,Bb]
 obtain⟨hc1,hc2⟩:=hc
 have hu0:=Gs (JA f) p hc1
 refine⟨⟨hc1,hc2⟩,?_⟩
 refine AC (Y:=Nat×Ex×Pr) (λy=>okP y.2.2/\dpU f y.2.2/\(y.2.2.l.length:Int)<=y.2.2.i+(y.1:Int)/\K6 (unF f) y.1 y.2.1 y.2.2=K7 (unF f) p)
  (λy=>⟨[(0,true,.one (.p 0 0 0)),(3,true,.one (exC y.2.1))],[(0,.vec 0 zPr [y.2.2.c])]⟩)
  (λy=>y.1) (p.l.length,(F2 (unF f) p).1,(F2 (unF f) p).2) ⟨hu0.ok,by show dpU f _;unfold dpU;rw[hu0.d];exact hc2,by have:=hu0.ok.1;simp only[hu0.l];omega,by show K6 _ _ _ _=K7 _ _;rfl⟩ (A2 [] ?_) ?_
 .simp only[seval,go_sem]
 rintro ⟨k,a,q⟩ ⟨h1,h2,h3,h4⟩
 refine AP [AV,Q1 f (jA f hu)] [] _ _ _ ?_
 dsimp only at h1 h2 h3 h4
 have hI:=h1.i
 cases he:(q.e==0) with
 |false=>
  have hr:(a,q)=K7 (unF f) p:=by
   rw[<- h4];cases k<;>simp[K6,he]
  simp only[seval,go_sem,he,AV,Av,Au,Aw,Al,Tok.r,Ao,ptR,As,AR,AQ,AS]
  refine A1 [] ?_;simp only[seval,go_sem,bne,VZ,Vb,<- hr]
 |true=>
 cases i0:isT [45] q with
 |true=>
  obtain⟨k',rfl⟩:∃k',k=k'+1:=⟨k-1,by have:=(BA i0).2;omega⟩
  simp only[K6,he,i0,if_true,if_false,jB]at h4
  have ha:=Ey h1 (BA i0).2 (BA i0).1
  have hu1:=Gs (JA f) _ ha.ok
  have hai:=J9 h1 (BA i0).2
  simp only[seval,go_sem,he,i0,AV,Bb,Q1,Av,Au,Aw,Al,Tok.r,Ao,ptR,As,AR,AQ,AS]
  refine⟨hI,⟨ha.ok,h2⟩,(k',Ex.mk 3 0 [] a (F2 (unF f) (adv q)).1,(F2 (unF f) (adv q)).2),⟨hu1.ok,by show dpU f _;unfold dpU;rw[hu1.d];exact h2,?_,h4⟩,Nat.lt_succ_self _,A2 [.fz 30] ?_⟩
  .exact YM
  exact ABC
 |false=>
 cases i1:isT [43] q with
 |true=>
  obtain⟨k',rfl⟩:∃k',k=k'+1:=⟨k-1,by have:=(BA i1).2;omega⟩
  simp only[K6,he,i0,i1,if_true,if_false,jB]at h4
  have ha:=Ey h1 (BA i1).2 (BA i1).1
  have hu1:=Gs (JA f) _ ha.ok
  have hai:=J9 h1 (BA i1).2
  simp only[seval,go_sem,he,i0,i1,AV,Bb,Q1,Av,Au,Aw,Al,Tok.r,Ao,ptR,As,AR,AQ,AS]
  refine⟨hI,hI,⟨ha.ok,h2⟩,(k',Ex.mk 2 0 [] a (F2 (unF f) (adv q)).1,(F2 (unF f) (adv q)).2),⟨hu1.ok,by show dpU f _;unfold dpU;rw[hu1.d];exact h2,?_,h4⟩,Nat.lt_succ_self _,A2 [.fz 30] ?_⟩
  .exact YM
  exact ABC
 |false=>
 have hr:(a,q)=K7 (unF f) p:=by
  rw[<- h4];cases k<;>simp[K6,he,i0,i1]
 simp only[seval,go_sem,he,i0,i1,AV,Bb,Av,Au,Aw,Al,Tok.r,Ao,ptR,As,AR,AQ,AS]
 refine⟨hI,hI,?_⟩
 refine A1 [] ?_;simp only[seval,go_sem,bne,VZ,Vb,<- hr]
attribute[local go_sem] Tok.r Ao Aw AR Av Au AS ptR As AQ Al Dy P1 AB AV AJ A7 JF AN AG Bb AO I8 in
theorem A3y(f:Nat)(hu:TD f)(hs:Zs f):TD (f+1):=by
 rintro ⟨p,_u⟩ w M I lab fz xs hc hA hl hx
 refine Ac Tryz.func118 rfl ((TC).mem ⟨p,_u⟩) w M I lab fz [AV,A7,AN,AB,AG,AJ,JF,(P1 f hu),(Dy f hs)] [] ((TC).args 0 ⟨p,_u⟩) ((λp:(Pr)×Unit=>R4 (f+1) p.1) ⟨p,_u⟩) ((λp:(Pr)×Unit=>R3 (f+1) p.1) ⟨p,_u⟩) xs hA hl hx (λv hv k hk=>by have:=(TC).an 0 ⟨p,_u⟩ v hv k hk;omega) (jN rfl) (jN rfl) ?_
 clear hx hl hA xs
 simp only[Tryz.f118]
 obtain⟨hc1,hc2⟩:=hc
 have hI:=hc1.i
 cases ho1:(p.e != 0) with
 |true=>
  have hr:unF (f+1) p=(.nil,DK 51 p):=by simp[unF,outB,ho1]
  simp only[seval,go_sem,ho1]
  exact AA5
 |false=>
 cases ho2:decide ((p.l.length:Int)<=p.i) with
 |true=>
  have hr:unF (f+1) p=(.nil,DK 51 p):=by simp[unF,outB,ho1,ho2]
  simp only[seval,go_sem,ho1,ho2]
  exact AA5
 |false=>
 have ho:outB p=false:=by unfold outB;rw[ho1,ho2];rfl
 have he:p.e=0:=by simpa using ho1
 have hlt:p.i<(p.l.length:Int):=by simpa using ho2
 have hlt':(p.i<(p.l.length:Int))=True:=by simp[hlt]
 have h0':(0<=p.i)=True:=by simp[hc1.1]
 cases i0:isT [45] p with
 |true=>
  cases ob:Fh p with
  |false=>
   have hr:unF (f+1) p=(.nil,CO p):=by simp[unF,ho,i0,ob]
   simp only[seval,go_sem,ho1,ho2,i0,ob]
   exact AA5
  |true=>
  have hr:unF (f+1) p=(.mk 7 0 [] (unF f (adv (CO p))).1 .nil,shut (unF f (adv (CO p))).2):=by simp[unF,ho,i0,ob]
  have ha:=Ef hc1 ob hlt
  have hd:dpU f (adv (CO p)):=by
   exact AAv
  simp only[seval,go_sem,ho1,ho2,i0,ob]
  try simp only[AD,AE]
  repeat' first|exact ck|with_reducible apply And.intro|intro _
  all_goals first|exact hI|exact hc1|(exact ha.ok)|(exact hd)|(exact hs2.ok)|(exact hsm)|exact KZ|(refine A1 [.fz 51] ?_;simp only[seval,go_sem,bne,R3,R4,hr,Af,EU,HI,shut,adv])
 |false=>
 cases i1:isT [40] p with
 |true=>
  cases ob:Fh p with
  |false=>
   have hr:unF (f+1) p=(.nil,CO p):=by simp[unF,ho,i0,i1,ob]
   simp only[seval,go_sem,ho1,ho2,i0,i1,ob]
   exact AA5
  |true=>
  have hr:unF (f+1) p=((K7 (unF f) (adv (CO p))).1,shut (Bd [41] (K7 (unF f) (adv (CO p))).2)):=by simp[unF,ho,i0,i1,ob]
  have ha:=Ef hc1 ob hlt
  have hd:dpU f (adv (CO p)):=by
   exact AAv
  have hs2:=T3 (JA f) _ ha.ok
  simp only[seval,go_sem,ho1,ho2,i0,i1,ob]
  have:=ha.ok;have:=hs2.ok;repeat refine AX ?_
  refine A1 [] ?_;simp only[seval,go_sem,bne,R3,R4,hr,shut,adv]
 |false=>
 cases i2:((tk p).k==1) with
 |true=>
  have hr:unF (f+1) p=(.mk 0 (numW (tk p).t 0) [] .nil .nil,adv p):=by simp[unF,ho,i0,i1,i2]
  have e1:=cw hc1 hlt
  have hsm:=yC hc1 hlt
  simp only[tk]at i2 hsm
  simp only[w64i]at e1
  simp only[seval,go_sem,ho1,ho2,i0,i1,i2,e1,hlt',h0']
  try simp only[AD,AE]
  repeat' first|exact ck|with_reducible apply And.intro|intro _
  all_goals first|exact hI|exact hc1|(exact ha.ok)|(exact hd)|(exact hs2.ok)|(exact hsm)|exact KZ|(refine A1 [.fz 111] ?_;simp only[seval,go_sem,bne,R3,R4,hr,adv,Af,EU,HI,tk])
 |false=>
 have i2':=i2
 simp only[tk]at i2'
 cases i3:nameB p with
 |true=>
  have hr:unF (f+1) p=(.mk 1 0 (E3 p) .nil .nil,CI p):=by simp[unF,ho,i0,i1,i2,i3]
  simp only[seval,go_sem,ho1,ho2,i0,i1,i2',i3,hlt',h0']
  try simp only[AD,AE]
  repeat' first|exact ck|with_reducible apply And.intro|intro _
  all_goals first|exact hI|exact hc1|(exact ha.ok)|(exact hd)|(exact hs2.ok)|(exact hsm)|exact KZ|(refine A1 [.fz 118] ?_;simp only[seval,go_sem,bne,R3,R4,hr,Af,EU,HI])
 |false=>
 have hr:unF (f+1) p=(.nil,DK 51 p):=by simp[unF,ho,i0,i1,i2,i3]
 simp only[seval,go_sem,ho1,ho2,i0,i1,i2',i3,hlt',h0']
 exact AA5
theorem nG:∀f:Nat,TD f
 |0=>by
  exact Ye
 |f+1=>A3y f (nG f) (qj f (nG f))
end Go.Proofs.YtapedeoheilnnaaGreat
