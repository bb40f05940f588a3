/- A statement's row while it is read. No conditions but those in each statement. -/
import Derived.Test.YtapedeoheilnnaaGreatAt
import Derived.Test.YtapedeoheilnnaaGreatPn
set_option linter.all false
set_option maxRecDepth 20000
set_option maxHeartbeats 8000000
open List (map_append)
namespace Go.Proofs.YtapedeoheilnnaaGreat
open Go Go.Sy Go.RowKit
theorem zo{P:Prop}(h:P:=by (repeat' first|exact ck|with_reducible apply And.intro|intro _);all_goals first|exact hI|exact hc1|exact ha.ok|exact KZ|(refine A1 [] ?_;simp only[seval,go_sem,bne,KR,KS,hr,arS,adv,R7,R8,BQ,zSc])):P:=h
theorem zp{P:Prop}(h:P:=by (repeat' first|exact ck|with_reducible apply And.intro|intro _);all_goals first|exact hI|exact hc1|exact KZ|(refine A1 [] ?_;simp only[seval,go_sem,bne,RA,RB,hr,arS,smS])):P:=h
abbrev arS(l:List Ar):C:=.d (.sl zAr (l.map Ar.r))
def arO:Option (List Ar)->C
 |none=>.v (.slice none 0 0)
 |some l=>arS l
structure Sf where
 x:List UInt8
 no:Int
def Sf.c(s:Sf):List C:=[.v (.int .i64 0),.v (.string (bs s.x)),.v (.string (bs [])),.v (.pointer none),.v (.pointer none),.v (.pointer none),.v (.slice none 0 0),.v (.slice none 0 0),.v (.slice none 0 0),.v (.int .i64 s.no)]
def R7(s:Sf)(v:VR):List C:=[.v (.int .i64 v.k),.v (.string (bs s.x)),.v (.string (bs v.y)),exC v.e,.v (.pointer none),.v (.pointer none),arO v.a,.v (.slice none 0 0),.v (.slice none 0 0),.v (.int .i64 s.no)]
theorem A4P(s:Sf):∀c∈s.c,c.names=[]:=by
 intro c hc
 simp only[Sf.c,List.mem_cons,List.not_mem_nil,or_false]at hc
 rcases hc with rfl|rfl|rfl|rfl|rfl|rfl|rfl|rfl|rfl|rfl<;>rfl
theorem D1(o:Option (List Ar)):(arO o).names=[]:=by cases o<;>rfl
theorem Dl(o:Option (List Ar)):C.stor (arO o)=true:=by cases o<;>rfl
theorem Dm(o:Option (List Ar)):Ew (arO o)=true:=by cases o<;>rfl
theorem EQ(k u:Nat)(p:List (Nat×Nat))(i j:Nat)(o:Option (List Ar))(r:List C):ldc k u p i j (arO o::r)=arO o::ldc k u p i (j+1) r:=by cases o<;>rfl
theorem K7(o:Option (List Ar)):leC (arO o) (.d (.sl zAr ((o.getD []).map Ar.r)))=True:=by
 cases o with
 |none=>exact Hr _
 |some l=>exact Gd _
theorem R8:arO none= .v (.slice none 0 0):=rfl
theorem nl(l:List Ar):arO (some l)= .d (.sl zAr (l.map Ar.r)):=rfl
theorem zq(a b:Sf)(h:a.c=b.c):a=b:=by
 obtain⟨x,no⟩:=a
 obtain⟨x',no'⟩:=b
 simp only[Sf.c,List.cons.injEq,C.v.injEq,Value.int.injEq,Value.string.injEq,true_and,and_true]at h
 rw[bs_inj h.1,h.2]
noncomputable def mSf:RowM Sf:=MH zSc Sf.c A4P
theorem qf:mSf.z=zSc:=rfl
theorem qg:mSf.e=Sf.c:=rfl
theorem A4Q(x:List UInt8)(no:Int):mSf.d [.v (.int .i64 0),.v (.string (bs x)),.v (.string (bs [])),.v (.pointer none),.v (.pointer none),.v (.pointer none),.v (.slice none 0 0),.v (.slice none 0 0),.v (.slice none 0 0),.v (.int .i64 no)]=some ⟨x,no⟩:=J9 zq ⟨x,no⟩
abbrev uU(p:Pr):Prop:=okP p
abbrev QG(p:Pr):SV:=.one (arS (argW p).1)
abbrev QH(p:Pr):List (Option MV):=[some (zPr,[(argW p).2.c])]
noncomputable abbrev NT:ArgM ((Pr)×Unit):=(amP (mPr) am0)
abbrev uV:Prop:=Bv Tryz.prog 99 ((NT).args 0) (NT).mem (λp:(Pr)×Unit=>uU p.1) (λp:(Pr)×Unit=>QG p.1) (λp:(Pr)×Unit=>QH p.1)
attribute [local go_sem] Pr.c zTk
theorem zr:uV:=by
 rintro ⟨p,_u⟩ w M I lab fz xs hc hA hl hx
 refine Aa Tryz.func99 rfl ((NT).mem ⟨p,_u⟩) w M I lab fz [A6,AC,X5] [] ((NT).args 0 ⟨p,_u⟩) ((λp:(Pr)×Unit=>QH p.1) ⟨p,_u⟩) ((λp:(Pr)×Unit=>QG p.1) ⟨p,_u⟩) xs hA hl hx (λv hv k hk=>by have:=(NT).an 0 ⟨p,_u⟩ v hv k hk;omega) (jN rfl) (jN rfl) ?_
 clear hx hl hA xs
 simp only[Tryz.f99]
 have hc1:okP p:=hc
 cases i0:isT [41] p with
 |true=>
  have hr:argW p=([],adv p):=by simp[argW,i0]
  simp only[seval,go_sem,AS,BR,A7,AM,AL,A9,AC,AG,A6,Dp,DH,Ap,Ao,Aq,Ah,Tok.r,Ak,ptR,An,AP,AO,AQ,i0,Bi]
  try simp only[A2,A3]
  repeat' first|exact ck|with_reducible apply And.intro|intro _
  all_goals first|exact hc1|exact KZ|(refine A1 [] ?_;simp only[seval,go_sem,bne,QG,QH,hr,arS,adv])
 |false=>
 have hr:argW p=argL (p.l.length+1) [] p:=by simp[argW,i0]
 simp only[seval,go_sem,AS,BR,A7,AM,AL,A9,AC,AG,A6,Dp,DH,Ap,Ao,Aq,Ah,Tok.r,Ak,ptR,An,AP,AO,AQ,i0,Bi]
 refine⟨hc1,?_⟩
 refine AK (Y:=Nat×List Ar×Pr) (λy=>okP y.2.2/\(y.2.2.e=0->(y.2.2.l.length:Int)+1<=y.2.2.i+(y.1:Int))/\(y.2.2.e=0->(y.2.1.length:Int)<=y.2.2.i)/\argL y.1 y.2.1 y.2.2=argW p)
  (λy=>⟨[(0,true,.one (.p 0 0 0)),(3,true,.one (.s 1000))],[(0,.vec 0 zPr [y.2.2.c]),(1000,.vec 0 zAc (y.2.1.map Ar.c))]⟩)
  (λy=>y.1) (p.l.length+1,[],p) ⟨hc1,λ_=>by have:=hc1.1;simp only;omega,λ_=>by simpa using hc1.1,hr.symm⟩ ?_ ?_
 .refine A4 [.nil 3 1000 zAc] ?_;simp only[seval,go_sem,zAc]
 rintro ⟨k,l,q⟩ ⟨h1,h2,h3,h4⟩
 refine AZ [A6,AC,X5] [] _ _ _ ?_
 dsimp only at h1 h2 h3 h4
 cases he:(q.e==0) with
 |false=>
  have hr2:argW p=([],q):=by rw[<- h4];cases k<;>simp[argL,he]
  simp only[seval,go_sem,AS,BR,A7,AM,AL,A9,AC,AG,A6,Dp,DH,Ap,Ao,Aq,Ah,Tok.r,Ak,ptR,An,AP,AO,AQ,he]
  try simp only[A2,A3]
  repeat' first|exact ck|with_reducible apply And.intro|intro _
  all_goals first|exact h1|exact KZ|(refine A1 [] ?_;simp only[seval,go_sem,bne,QG,QH,hr2,arS])
 |true=>
 have he0:q.e=0:=by simpa using he
 obtain⟨k',rfl⟩:∃k',k=k'+1:=⟨k-1,by have:=h2 he0;have:=h1.2.1;omega⟩
 simp only[argL,he,if_true]at h4
 have hs:=Di h1
 have hle:l.length<=4096:=by have:=h3 he0;have:=h1.2.1;have:=h1.2.2.1;omega
 have hd:=K0 h1
 cases it:isT [41] (exS q).2 with
 |true=>
  rw[if_pos it]at h4
  have hb:=Av hs.ok it
  simp only[seval,go_sem,AS,BR,A7,AM,AL,A9,AC,AG,A6,Dp,DH,Ap,Ao,Aq,Ah,Tok.r,Ak,ptR,An,AP,AO,AQ,he,it,Bi,adv,zAc,I9.fn]
  try simp only[A2,A3]
  repeat' first|exact ck|with_reducible apply And.intro|intro _
  all_goals first|exact h1|exact hd|exact hs.ok|exact KZ|(refine A1 [.fz 16] ?_;simp only[seval,go_sem,bne,QG,QH,<- h4,arS,adv,zAr,I9.ds1,map_append,Ar.r])
 |false=>
 rw[if_neg (by rw[it];decide)]at h4
 have hw:=Ae (t:=[44]) hs.ok
 simp only[seval,go_sem,AS,BR,A7,AM,AL,A9,AC,AG,A6,Dp,DH,Ap,Ao,Aq,Ah,Tok.r,Ak,ptR,An,AP,AO,AQ,he,it,Bi,zAc,I9.fn]
 try simp only[A2,A3]
 repeat' first|exact ck|with_reducible apply And.intro|intro _
 all_goals try first|exact h1|exact hd|exact hs.ok|exact KZ
 refine⟨(k',l++[⟨false,[],(exS q).1⟩],BW [44] (exS q).2),⟨hw.ok,?_,?_,h4⟩,Nat.lt_succ_self _,
  CJ (t:=⟨[(0,true,.one (.p 0 0 0)),(3,true,.one (.s 16))],[(0,.vec 0 zPr [(BW [44] (exS q).2).c]),(16,.vec 0 zAc ((l++[(⟨false,[],(exS q).1⟩:Ar)]).map Ar.c))]⟩) (A4 [] ?_) (A4 [.mv 16 1000] ?_)⟩
 .exact λhw0=>by have h5:=h2 he0;have hi1:=hs.i;have e:=V2 hs.ok hw0;dsimp only;rw[hw.l,hs.l];omega
 .exact λhw0=>by have h5:=h3 he0;have hi1:=hs.i;have e:=V2 hs.ok hw0;simp only[jL3];omega
 .simp only[seval,go_sem,zAc,I9.fn,List.flatMap_append,map_append,Ar.c]
 simp only[seval,go_sem,zAc,I9.fn,I9.mv]
noncomputable def Ij{X:Ctx}{w0:World}:Sy.Spec Tryz.prog X w0:=Cl 99 Tryz.call99 (NT) _ _ _ KF1 KF0 KF2 zr
theorem uW(p:Pr)(s:Sf)(v:VR):∀q,some q∈[some ((zPr,[p.c]):MV),some ((zSc,[R7 s v]):MV)]->∀r∈q.2,∀c∈r,c.names=[]:=by
 intro q hq r hr c hc
 simp only[List.mem_cons,List.not_mem_nil,or_false,jS]at hq
 rcases hq with rfl|rfl
 .simp only[List.mem_singleton]at hr;subst hr;exact WA p c hc
 simp only[List.mem_singleton]at hr;subst hr
 simp only[R7,List.mem_cons,List.not_mem_nil,or_false]at hc
 rcases hc with rfl|rfl|rfl|rfl|rfl|rfl|rfl|rfl|rfl|rfl<;>first|rfl|exact Lt _|exact D1 _
abbrev np(p:Pr)(s:Sf):Prop:=okP p
abbrev KR(p:Pr)(s:Sf):SV:=.tup []
abbrev KS(p:Pr)(s:Sf):List (Option MV):=[some (zPr,[(valF p).2.c]),some (zSc,[R7 s (valF p).1])]
noncomputable abbrev Lk:ArgM ((Pr)×(Sf)×Unit):=(amP (mPr) (amP (mSf) am0))
abbrev nq:Prop:=Bv Tryz.prog 100 ((Lk).args 0) (Lk).mem (λp:(Pr)×(Sf)×Unit=>np p.1 p.2.1) (λp:(Pr)×(Sf)×Unit=>KR p.1 p.2.1) (λp:(Pr)×(Sf)×Unit=>KS p.1 p.2.1)
attribute [local go_sem] Pr.c Sf.c Tok.r Ak Aq AP Ap Ao qg qf AQ ptR An AO Bi Ah DH Dp Ij A9 AS AG A7 AL A6 AC BR AM zTk
theorem uX:nq:=by
 rintro ⟨p,s,_u⟩ w M I lab fz xs hc hA hl hx
 refine Aa Tryz.func100 rfl ((Lk).mem ⟨p,s,_u⟩) w M I lab fz [A6,A7,AG,AC,Ij,X5] [] ((Lk).args 0 ⟨p,s,_u⟩) ((λp:(Pr)×(Sf)×Unit=>KS p.1 p.2.1) ⟨p,s,_u⟩) ((λp:(Pr)×(Sf)×Unit=>KR p.1 p.2.1) ⟨p,s,_u⟩) xs hA hl hx (λv hv k hk=>by have:=(Lk).an 0 ⟨p,s,_u⟩ v hv k hk;omega) (jN rfl) (jN rfl) ?_
 clear hx hl hA xs
 simp only[Tryz.f100]
 have hc1:okP p:=hc
 have hI:=hc1.i
 have hdp:=K0 hc1
 cases i0:isT pv p with
 |true=>
  have hr:valF p=(⟨3,[],.nil,none⟩,adv p):=by simp[valF,i0]
  simp only[seval,go_sem,i0]
  try simp only[A2,A3]
  repeat' first|exact ck|with_reducible apply And.intro|intro _
  all_goals first|exact hI|exact hc1|exact KZ|(refine A1 [] ?_;simp only[seval,go_sem,bne,KR,KS,hr,arS,adv,R7,R8,BQ,zSc])
 |false=>
 cases i1:isT [38] p with
 |true=>
  have hr:valF p=(⟨1,Dy (adv p),.nil,none⟩,C4 (adv p)):=by simp[valF,i0,i1]
  have ha:=Av hc1 i1
  simp only[seval,go_sem,i0,i1,adv]
  try simp only[A2,A3]
  try exact zo
 |false=>
 cases i2:isT [42] p with
 |true=>
  have hr:valF p=(⟨4,Dy (adv p),.nil,none⟩,C4 (adv p)):=by simp[valF,i0,i1,i2]
  have ha:=Av hc1 i2
  simp only[seval,go_sem,i0,i1,i2,adv]
  try simp only[A2,A3]
  try exact zo
 |false=>
 have n5:IntKind.i64.wrap (p.i+1)=p.i+1:=by obtain⟨h1,h2,h3,_⟩:=hc1;exact wrap_i64 (by omega) (by omega)
 have q0:(0<=p.i+1)=True:=by have:=hc1.1;simp;omega
 cases i3:ahB [91] p with
 |true=>
  have hr:valF p=(⟨6,Dy p,(exS (adv (C4 p))).1,none⟩,BW [93] (exS (adv (C4 p))).2):=by simp[valF,i0,i1,i2,i3]
  obtain⟨hna,z1,_,z2⟩:=eU hc1 i3
  have z0:decide (p.i+1<(p.l.length:Int))=true:=by simp[z1]
  have z0':(p.i+1<(p.l.length:Int))=True:=by simp[z1]
  have ha:=Ry hc1 i3
  have hs:=Di ha.ok
  have hd:=K0 ha.ok
  simp only[seval,go_sem,i0,i1,i2,hna,n5,q0,z0,z0',z2]
  try simp only[A2,A3]
  repeat' first|exact ck|with_reducible apply And.intro|intro _
  all_goals first|exact hI|exact hc1|exact ha.ok|exact hs.ok|exact hd|exact KZ|(refine A1 [] ?_;simp only[seval,go_sem,bne,KR,KS,hr,arS,adv,R7,R8,BQ,zSc])
 |false=>
 have g3:=i3
 unfold ahB tkA at g3
 simp only[w64i,n5]at g3
 cases i4:ahB [40] p with
 |true=>
  have hr:valF p=(⟨8,Dy p,.nil,some (argW (adv (C4 p))).1⟩,(argW (adv (C4 p))).2):=by simp[valF,i0,i1,i2,i3,i4]
  obtain⟨hna,z1,_,z2⟩:=eU hc1 i4
  have z0:decide (p.i+1<(p.l.length:Int))=true:=by simp[z1]
  have z0':(p.i+1<(p.l.length:Int))=True:=by simp[z1]
  have z3:((p.l.getD (p.i+1).toNat tk0).t==[91])=false:=by rw[hna,z0]at g3;simpa using g3
  have ha:=Ry hc1 i4
  simp only[seval,go_sem,i0,i1,i2,hna,n5,q0,z0,z0',z2,z3]
  try simp only[A2,A3]
  repeat' first|exact ck|with_reducible apply And.intro|intro _
  all_goals first|exact hI|exact hc1|exact ha.ok|exact KZ|(refine A1 [] ?_;simp only[seval,go_sem,bne,KR,KS,hr,arS,adv,R7,nl,BQ,zSc])
 |false=>
 have hr:valF p=(⟨0,[],(exS p).1,none⟩,(exS p).2):=by simp[valF,i0,i1,i2,i3,i4]
 have g4:=i4
 unfold ahB tkA at g4
 simp only[w64i,n5]at g4
 simp only[seval,go_sem,i0,i1,i2,g3,g4,n5,q0]
 try simp only[A2,A3]
 repeat' first|exact ck|with_reducible apply And.intro|intro _
 all_goals first|exact hI|exact hc1|exact hdp|(assumption)|(simp only[Bool.and_eq_true,decide_eq_true_eq]at *;omega)|exact KZ|(refine A1 [] ?_;simp only[seval,go_sem,bne,KR,KS,hr,arS,adv,R7,R8,BQ,zSc])
noncomputable def JU{X:Ctx}{w0:World}:Sy.Spec Tryz.prog X w0:=Cl 100 Tryz.call100 (Lk) _ _ _ KF1 KF0 (id (by intro p _;exact uW _ _ _)) uX
abbrev smS(l:List Sm):C:=.d (.sl zSm (l.map Sm.r))
theorem zu(n:Nat)(s:Sm):RZ n (.agg s.c)=true:=by
 show s.c.all (Iv n)=true
 unfold Sm.c
 simp only[List.all_cons,List.all_nil,bO,bP,Bool.and_true]
 rfl
abbrev uY(f:Nat)(p:Pr):Prop:=okP p/\dpU f p
abbrev Gx(f:Nat)(p:Pr):SV:=.agg (CT f p).1.c
abbrev Gz(f:Nat)(p:Pr):List (Option MV):=[some (zPr,[(CT f p).2.c])]
noncomputable abbrev NU:ArgM ((Pr)×Unit):=(amP (mPr) am0)
abbrev NW(f:Nat):Prop:=Bv Tryz.prog 79 ((NU).args 0) (NU).mem (λp:(Pr)×Unit=>uY f p.1) (λp:(Pr)×Unit=>Gx f p.1) (λp:(Pr)×Unit=>Gz f p.1)
noncomputable def Kn{X:Ctx}{w0:World}(f:Nat)(h:NW f):Sy.Spec Tryz.prog X w0:=Cl 79 Tryz.call79 (NU) _ _ _ KF1 (id (by intro p _;exact zu _ _)) KF2 h
abbrev nr(f:Nat)(p:Pr):Prop:=okP p/\dpU f p
abbrev OE(f:Nat)(p:Pr):SV:=.one (smS (stmtsW (CT f) p).1)
abbrev OG(f:Nat)(p:Pr):List (Option MV):=[some (zPr,[(stmtsW (CT f) p).2.c])]
noncomputable abbrev Ll:ArgM ((Pr)×Unit):=(amP (mPr) am0)
abbrev Zw(f:Nat):Prop:=Bv Tryz.prog 66 ((Ll).args 0) (Ll).mem (λp:(Pr)×Unit=>nr f p.1) (λp:(Pr)×Unit=>OE f p.1) (λp:(Pr)×Unit=>OG f p.1)
noncomputable def R9{X:Ctx}{w0:World}(f:Nat)(h:Zw f):Sy.Spec Tryz.prog X w0:=Cl 66 Tryz.call66 (Ll) _ _ _ KF1 KF0 KF2 h
attribute [local go_sem] Pr.c zTk
theorem dX(f:Nat)(hu:NW f):Zw f:=by
 rintro ⟨p,_u⟩ w M I lab fz xs hc hA hl hx
 refine Aa Tryz.func66 rfl ((Ll).mem ⟨p,_u⟩) w M I lab fz [A6,A9,(Kn f hu)] [] ((Ll).args 0 ⟨p,_u⟩) ((λp:(Pr)×Unit=>OG f p.1) ⟨p,_u⟩) ((λp:(Pr)×Unit=>OE f p.1) ⟨p,_u⟩) xs hA hl hx (λv hv k hk=>by have:=(Ll).an 0 ⟨p,_u⟩ v hv k hk;omega) (jN rfl) (jN rfl) ?_
 clear hx hl hA xs
 simp only[Tryz.f66]
 obtain⟨hc1,hc2⟩:=hc
 dsimp only at hc1 hc2
 obtain⟨f',rfl⟩:∃f',f=f'+1:=by
  cases f with
  |zero=>
   have h3:p.deep<=40:=hc1.2.2.2.2.1
   have h4:41<=p.deep+((0:Nat):Int):=hc2
   exact absurd h4 (by simp;omega)
  |succ f=>exact⟨f,rfl⟩
 simp only[seval,go_sem,AS,BR,A7,AM,AL,A9,AC,AG,A6,Ij,JU,Dp,DH,Kn,Ap,Ao,Aq,Ah,Tok.r,Ak,ptR,An,AP,AO,AQ]
 refine AK (Y:=Nat×List Sm×Pr) (λy=>okP y.2.2/\dpU (f'+1) y.2.2/\(y.2.2.e=0->(y.2.2.l.length:Int)+1<=y.2.2.i+(y.1:Int))/\(y.2.2.e=0->(y.2.1.length:Int)<=y.2.2.i)/\stmtsL (CT (f'+1)) y.1 y.2.1 y.2.2=stmtsW (CT (f'+1)) p)
  (λy=>⟨[(0,true,.one (.p 0 0 0)),(3,true,.one (.s 1000))],[(0,.vec 0 zPr [y.2.2.c]),(1000,.vec 0 zSc (y.2.1.map Sm.c))]⟩)
  (λy=>y.1) (p.l.length+1,[],p) ⟨hc1,hc2,λ_=>by have:=hc1.1;simp only;omega,λ_=>by simpa using hc1.1,rfl⟩ ?_ ?_
 .refine A4 [.nil 3 1000 zSc] ?_;simp only[seval,go_sem,zSc]
 rintro ⟨k,l,q⟩ ⟨h1,h2,h3,h4,h5⟩
 refine AZ [A6,A9,Kn (f'+1) hu] [] _ _ _ ?_
 dsimp only at h1 h2 h3 h4 h5
 cases he:(q.e==0) with
 |false=>
  have hr2:stmtsW (CT (f'+1)) p=(l,q):=by rw[<- h5];cases k<;>simp[stmtsL,he]
  simp only[seval,go_sem,AS,BR,A7,AM,AL,A9,AC,AG,A6,Ij,JU,Dp,DH,Kn,Ap,Ao,Aq,Ah,Tok.r,Ak,ptR,An,AP,AO,AQ,he]
  try simp only[A2,A3]
  repeat' first|exact ck|with_reducible apply And.intro|intro _
  all_goals first|exact h1|exact KZ|(refine A1 [.fz 1000] ?_;simp only[seval,go_sem,bne,OE,OG,hr2,arS,smS,zSc,zSm,Hg.ds,Hg.fz])
 |true=>
 have he0:q.e=0:=by simpa using he
 obtain⟨k',rfl⟩:∃k',k=k'+1:=⟨k-1,by have:=h3 he0;have:=h1.2.1;omega⟩
 simp only[stmtsL,he,if_true]at h5
 have hs:=L2 (f'+1) q h1
 have hI:=h1.i
 have hle:l.length<=4096:=by have:=h4 he0;have:=h1.2.1;have:=h1.2.2.1;omega
 cases it:isT [125] q with
 |true=>
  rw[if_pos it]at h5
  simp only[seval,go_sem,AS,BR,A7,AM,AL,A9,AC,AG,A6,Ij,JU,Dp,DH,Kn,Ap,Ao,Aq,Ah,Tok.r,Ak,ptR,An,AP,AO,AQ,he,it,Bi,adv]
  try simp only[A2,A3]
  repeat' first|exact ck|with_reducible apply And.intro|intro _
  all_goals first|exact h1|exact hI|exact KZ|(refine A1 [.fz 1000] ?_;simp only[seval,go_sem,bne,OE,OG,<- h5,arS,adv,smS,zSc,zSm,Hg.ds,Hg.fz])
 |false=>
 rw[if_neg (by rw[it];decide)]at h5
 cases ib:decide ((q.l.length:Int)<=q.i) with
 |true=>
  rw[if_pos ib]at h5
  simp only[seval,go_sem,AS,BR,A7,AM,AL,A9,AC,AG,A6,Ij,JU,Dp,DH,Kn,Ap,Ao,Aq,Ah,Tok.r,Ak,ptR,An,AP,AO,AQ,he,it,ib,Bi]
  try simp only[A2,A3]
  repeat' first|exact ck|with_reducible apply And.intro|intro _
  all_goals first|exact h1|exact hI|exact KZ|(refine A1 [] ?_;simp only[seval,go_sem,bne,OE,OG,<- h5,arS,smS])
 |false=>
 rw[if_neg (by rw[ib];decide)]at h5
 simp only[seval,go_sem,AS,BR,A7,AM,AL,A9,AC,AG,A6,Ij,JU,Dp,DH,Kn,Ap,Ao,Aq,Ah,Tok.r,Ak,ptR,An,AP,AO,AQ,he,it,ib,Bi,zSc,Sm.c,Hg.fn]
 try simp only[A2,A3]
 repeat' first|exact ck|with_reducible apply And.intro|intro _
 all_goals try first|exact h1|exact hI|exact h2|exact KZ
 refine⟨(k',l++[(CT (f'+1) q).1],(CT (f'+1) q).2),⟨hs.ok,by show dpU _ _;unfold dpU;rw[hs.d];exact h2,?_,?_,h5⟩,Nat.lt_succ_self _,
  CJ (t:=⟨[(0,true,.one (.p 0 0 0)),(3,true,.one (.s 30))],[(0,.vec 0 zPr [(CT (f'+1) q).2.c]),(30,.vec 0 zSc ((l++[(CT (f'+1) q).1]).map Sm.c))]⟩) (A4 [] ?_) (A4 [.mv 30 1000] ?_)⟩
 .exact λhw0=>by have h6:=h3 he0;have e:=gq f' h1 hw0;dsimp only;rw[hs.l];omega
 .exact λhw0=>by have h6:=h4 he0;have e:=gq f' h1 hw0;simp only[jL3];omega
 .simp only[seval,go_sem,zSc,Hg.fn,List.flatMap_append,map_append,Sm.c]
 simp only[seval,go_sem,zSc,Hg.fn,Hg.mv]
abbrev nu(f:Nat)(p:Pr):Prop:=okP p/\dpU (f+1) p
abbrev RA(f:Nat)(p:Pr):SV:=.one (smS (blkW (CT f) p).1)
abbrev RB(f:Nat)(p:Pr):List (Option MV):=[some (zPr,[(blkW (CT f) p).2.c])]
noncomputable abbrev Lm:ArgM ((Pr)×Unit):=(amP (mPr) am0)
abbrev Zx(f:Nat):Prop:=Bv Tryz.prog 98 ((Lm).args 0) (Lm).mem (λp:(Pr)×Unit=>nu f p.1) (λp:(Pr)×Unit=>RA f p.1) (λp:(Pr)×Unit=>RB f p.1)
noncomputable def Zy{X:Ctx}{w0:World}(f:Nat)(h:Zx f):Sy.Spec Tryz.prog X w0:=Cl 98 Tryz.call98 (Lm) _ _ _ KF1 KF0 KF2 h
attribute[local go_sem] Tok.r Ak Aq AP Ap Ao AQ ptR An AO Ah DH Kn R9 Dp Ij A9 AS AG A7 AL A6 JU AC BR AM in
theorem uZ(f:Nat)(hu:NW f):Zx f:=by
 rintro ⟨p,_u⟩ w M I lab fz xs hc hA hl hx
 refine Aa Tryz.func98 rfl ((Lm).mem ⟨p,_u⟩) w M I lab fz [AS,A9,AL,(R9 f (dX f hu))] [] ((Lm).args 0 ⟨p,_u⟩) ((λp:(Pr)×Unit=>RB f p.1) ⟨p,_u⟩) ((λp:(Pr)×Unit=>RA f p.1) ⟨p,_u⟩) xs hA hl hx (λv hv k hk=>by have:=(Lm).an 0 ⟨p,_u⟩ v hv k hk;omega) (jN rfl) (jN rfl) ?_
 clear hx hl hA xs
 simp only[Tryz.f98]
 obtain⟨hc1,hc2⟩:=hc
 dsimp only at hc1 hc2
 have hI:=hc1.i
 cases i0:isT [123] p with
 |false=>
  have hr:blkW (CT f) p=([],D6 51 p):=by simp[blkW,i0]
  simp only[seval,go_sem,i0]
  try simp only[A2,A3]
  try exact zp
 |true=>
 cases ob:FU p with
 |false=>
  have hr:blkW (CT f) p=([],C9 p):=by simp[blkW,i0,ob]
  simp only[seval,go_sem,i0,ob]
  try simp only[A2,A3]
  try exact zp
 |true=>
 have hr:blkW (CT f) p=((stmtsW (CT f) (adv (C9 p))).1,shut (stmtsW (CT f) (adv (C9 p))).2):=by simp[blkW,i0,ob]
 have ha:=EY hc1 ob (B6 i0).2
 have hd:=MM hc1 ob hc2
 simp only[seval,go_sem,i0,ob]
 try simp only[A2,A3]
 repeat' first|exact ck|with_reducible apply And.intro|intro _
 all_goals first|exact hI|exact hc1|exact ha.ok|exact hd|exact KZ|(refine A1 [] ?_;simp only[seval,go_sem,bne,RA,RB,hr,arS,smS,shut,adv])
end Go.Proofs.YtapedeoheilnnaaGreat
