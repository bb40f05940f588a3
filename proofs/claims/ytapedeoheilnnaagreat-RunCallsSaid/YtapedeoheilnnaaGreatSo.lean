/- A statement's row while it is read. No conditions but those in each statement. -/
import Derived.Test.YtapedeoheilnnaaGreatAt
import Derived.Test.YtapedeoheilnnaaGreatPn
set_option linter.all false
set_option maxRecDepth 20000
set_option maxHeartbeats 8000000
open List (map_append)
namespace Go.Proofs.YtapedeoheilnnaaGreat
open Go Go.Sy Go.RowKit
theorem AAJ{P:Prop}(h:P:=by refine A1 [] ?_;simp only[seval,go_sem,bne,Jc,Jd,hr,arS,adv,PV,OO,Af,zSc]):P:=h
abbrev arS(l:List Ar):C:=.d (.sl zAr (l.map Ar.r))
def arO:Option (List Ar)->C
 |none=>.v (.slice none 0 0)
 |some l=>arS l
structure Sf where
 x:List UInt8
 no:Int
def Sf.c(s:Sf):List C:=[.v (.int .i64 0),.v (.string (bs s.x)),.v (.string (bs [])),.v (.pointer none),.v (.pointer none),.v (.pointer none),.v (.slice none 0 0),.v (.slice none 0 0),.v (.slice none 0 0),.v (.int .i64 s.no)]
def PV(s:Sf)(v:VR):List C:=[.v (.int .i64 v.k),.v (.string (bs s.x)),.v (.string (bs v.y)),exC v.e,.v (.pointer none),.v (.pointer none),arO v.a,.v (.slice none 0 0),.v (.slice none 0 0),.v (.int .i64 s.no)]
theorem A4g(s:Sf):∀c∈s.c,c.names=[]:=by
 intro c hc
 simp only[Sf.c,List.mem_cons,List.not_mem_nil,or_false]at hc
 rcases hc with rfl|rfl|rfl|rfl|rfl|rfl|rfl|rfl|rfl|rfl<;>rfl
theorem DC(o:Option (List Ar)):(arO o).names=[]:=by cases o<;>rfl
theorem Du(o:Option (List Ar)):C.stor (arO o)=true:=by cases o<;>rfl
theorem Dv(o:Option (List Ar)):F3 (arO o)=true:=by cases o<;>rfl
theorem EX(k u:Nat)(p:List (Nat×Nat))(i j:Nat)(o:Option (List Ar))(r:List C):ldc k u p i j (arO o::r)=arO o::ldc k u p i (j+1) r:=by cases o<;>rfl
theorem KG(o:Option (List Ar)):leC (arO o) (.d (.sl zAr ((o.getD []).map Ar.r)))=True:=by
 cases o with
 |none=>exact Hv _
 |some l=>exact Gt _
theorem OO:arO none= .v (.slice none 0 0):=rfl
theorem oR(l:List Ar):arO (some l)= .d (.sl zAr (l.map Ar.r)):=rfl
theorem A0B(a b:Sf)(h:a.c=b.c):a=b:=by
 obtain⟨x,no⟩:=a
 obtain⟨x',no'⟩:=b
 simp only[Sf.c,List.cons.injEq,C.v.injEq,Value.int.injEq,Value.string.injEq,true_and,and_true]at h
 rw[bs_inj h.1,h.2]
noncomputable def mSf:RowM Sf:=MP zSc Sf.c A4g
theorem rO:mSf.z=zSc:=rfl
theorem rP:mSf.e=Sf.c:=rfl
theorem A4h(x:List UInt8)(no:Int):mSf.d [.v (.int .i64 0),.v (.string (bs x)),.v (.string (bs [])),.v (.pointer none),.v (.pointer none),.v (.pointer none),.v (.slice none 0 0),.v (.slice none 0 0),.v (.slice none 0 0),.v (.int .i64 no)]=some ⟨x,no⟩:=JG A0B ⟨x,no⟩
abbrev v9(p:Pr):Prop:=okP p
abbrev Qa(p:Pr):SV:=.one (arS (argW p).1)
abbrev Qb(p:Pr):List (Option MV):=[some (zPr,[(argW p).2.c])]
noncomputable abbrev Nj:ArgM ((Pr)×Unit):=(amP (mPr) am0)
abbrev vA:Prop:=C7 Tryz.prog 99 ((Nj).args 0) (Nj).mem (λp:(Pr)×Unit=>v9 p.1) (λp:(Pr)×Unit=>Qa p.1) (λp:(Pr)×Unit=>Qb p.1)
section
attribute [local go_sem] Pr.c zTk
theorem A0C:vA:=by
 rintro ⟨p,_u⟩ w M I lab fz xs hc hA hl hx
 refine Ac Tryz.func99 rfl ((Nj).mem ⟨p,_u⟩) w M I lab fz [A6,AG,XA] [] ((Nj).args 0 ⟨p,_u⟩) ((λp:(Pr)×Unit=>Qb p.1) ⟨p,_u⟩) ((λp:(Pr)×Unit=>Qa p.1) ⟨p,_u⟩) xs hA hl hx (λv hv k hk=>by have:=(Nj).an 0 ⟨p,_u⟩ v hv k hk;omega) (jN rfl) (jN rfl) ?_
 clear hx hl hA xs
 simp only[Tryz.f99]
 have hc1:okP p:=hc
 cases i0:isT [41] p with
 |true=>
  have hr:argW p=([],adv p):=by simp[argW,i0]
  simp only[seval,go_sem,AV,Bb,A7,AO,AN,AB,AG,AJ,A6,Dy,DX,Av,Au,Aw,Al,Tok.r,Ao,ptR,As,AR,AQ,AS,i0,Bt]
  repeat refine AX ?_
  refine A1 [] ?_;simp only[seval,go_sem,bne,Qa,Qb,hr,arS,adv]
 |false=>
 have hr:argW p=argL (p.l.length+1) [] p:=by simp[argW,i0]
 simp only[seval,go_sem,AV,Bb,A7,AO,AN,AB,AG,AJ,A6,Dy,DX,Av,Au,Aw,Al,Tok.r,Ao,ptR,As,AR,AQ,AS,i0,Bt]
 refine⟨hc1,?_⟩
 refine AC (Y:=Nat×List Ar×Pr) (λy=>okP y.2.2/\(y.2.2.e=0->(y.2.2.l.length:Int)+1<=y.2.2.i+(y.1:Int))/\(y.2.2.e=0->(y.2.1.length:Int)<=y.2.2.i)/\argL y.1 y.2.1 y.2.2=argW p)
  (λy=>⟨[(0,true,.one (.p 0 0 0)),(3,true,.one (.s 1000))],[(0,.vec 0 zPr [y.2.2.c]),(1000,.vec 0 zAc (y.2.1.map Ar.c))]⟩)
  (λy=>y.1) (p.l.length+1,[],p) ⟨hc1,λ_=>by have:=hc1.1;simp only;omega,λ_=>by simpa using hc1.1,hr.symm⟩ ?_ ?_
 .refine A2 [.nil 3 1000 zAc] ?_;simp only[seval,go_sem,zAc]
 rintro ⟨k,l,q⟩ ⟨h1,h2,h3,h4⟩
 refine AP [A6,AG,XA] [] _ _ _ ?_
 dsimp only at h1 h2 h3 h4
 cases he:(q.e==0) with
 |false=>
  have hr2:argW p=([],q):=by rw[<- h4];cases k<;>simp[argL,he]
  simp only[seval,go_sem,AV,Bb,A7,AO,AN,AB,AG,AJ,A6,Dy,DX,Av,Au,Aw,Al,Tok.r,Ao,ptR,As,AR,AQ,AS,he]
  repeat refine AX ?_
  refine A1 [] ?_;simp only[seval,go_sem,bne,Qa,Qb,hr2,arS]
 |true=>
 have he0:q.e=0:=by simpa using he
 obtain⟨k',rfl⟩:∃k',k=k'+1:=⟨k-1,by have:=h2 he0;have:=h1.2.1;omega⟩
 simp only[argL,he,if_true]at h4
 have hs:=Ds h1
 have hle:l.length<=4096:=by have:=h3 he0;have:=h1.2.1;have:=h1.2.2.1;omega
 have hd:=K8 h1
 cases it:isT [41] (exS q).2 with
 |true=>
  rw[if_pos it]at h4
  have hb:=B0 hs.ok it
  simp only[seval,go_sem,AV,Bb,A7,AO,AN,AB,AG,AJ,A6,Dy,DX,Av,Au,Aw,Al,Tok.r,Ao,ptR,As,AR,AQ,AS,he,it,Bt,adv,zAc,IE.fn]
  have:=hs.ok;repeat refine AX ?_
  refine A1 [.fz 16] ?_;simp only[seval,go_sem,bne,Qa,Qb,<- h4,arS,adv,zAr,IE.ds1,map_append,Ar.r]
 |false=>
 rw[if_neg (by rw[it];decide)]at h4
 have hw:=Ak (t:=[44]) hs.ok
 simp only[seval,go_sem,AV,Bb,A7,AO,AN,AB,AG,AJ,A6,Dy,DX,Av,Au,Aw,Al,Tok.r,Ao,ptR,As,AR,AQ,AS,he,it,Bt,zAc,IE.fn]
 have:=hs.ok;repeat refine AX ?_
 refine⟨(k',l++[⟨false,[],(exS q).1⟩],Bd [44] (exS q).2),⟨hw.ok,?_,?_,h4⟩,Nat.lt_succ_self _,
  BU (t:=⟨[(0,true,.one (.p 0 0 0)),(3,true,.one (.s 16))],[(0,.vec 0 zPr [(Bd [44] (exS q).2).c]),(16,.vec 0 zAc ((l++[(⟨false,[],(exS q).1⟩:Ar)]).map Ar.c))]⟩) (A2 [] ?_) (A2 [.mv 16 1000] ?_)⟩
 .exact λhw0=>by have h5:=h2 he0;have hi1:=hs.i;have e:=VK hs.ok hw0;dsimp only;rw[hw.l,hs.l];omega
 .exact λhw0=>by have h5:=h3 he0;have hi1:=hs.i;have e:=VK hs.ok hw0;simp only[jL3];omega
 .simp only[seval,go_sem,zAc,IE.fn,List.flatMap_append,map_append,Ar.c]
 simp only[seval,go_sem,zAc,IE.fn,IE.mv]
noncomputable def Iw{X:Ctx}{w0:World}:Sy.Spec Tryz.prog X w0:=D0 99 Tryz.call99 (Nj) _ _ _ KF1 KF0 KF2 A0C
end
open Go Go.Sy Go.RowKit
theorem vB(p:Pr)(s:Sf)(v:VR):∀q,some q∈[some ((zPr,[p.c]):MV),some ((zSc,[PV s v]):MV)]->∀r∈q.2,∀c∈r,c.names=[]:=by
 intro q hq r hr c hc
 simp only[List.mem_cons,List.not_mem_nil,or_false,jS]at hq
 rcases hq with rfl|rfl
 .simp only[List.mem_singleton]at hr;subst hr;exact WP p c hc
 simp only[List.mem_singleton]at hr;subst hr
 simp only[PV,List.mem_cons,List.not_mem_nil,or_false]at hc
 rcases hc with rfl|rfl|rfl|rfl|rfl|rfl|rfl|rfl|rfl|rfl<;>first|rfl|exact M2 _|exact DC _
abbrev oT(p:Pr)(s:Sf):Prop:=okP p
abbrev Jc(p:Pr)(s:Sf):SV:=.tup []
abbrev Jd(p:Pr)(s:Sf):List (Option MV):=[some (zPr,[(valF p).2.c]),some (zSc,[PV s (valF p).1])]
noncomputable abbrev Ls:ArgM ((Pr)×(Sf)×Unit):=(amP (mPr) (amP (mSf) am0))
abbrev oU:Prop:=C7 Tryz.prog 100 ((Ls).args 0) (Ls).mem (λp:(Pr)×(Sf)×Unit=>oT p.1 p.2.1) (λp:(Pr)×(Sf)×Unit=>Jc p.1 p.2.1) (λp:(Pr)×(Sf)×Unit=>Jd p.1 p.2.1)
section
attribute [local go_sem] Pr.c Sf.c Tok.r Ao Aw AR Av Au rP rO AS ptR As AQ Bt Al DX Dy Iw AB AV AJ A7 AN A6 AG Bb AO zTk
theorem vC:oU:=by
 rintro ⟨p,s,_u⟩ w M I lab fz xs hc hA hl hx
 refine Ac Tryz.func100 rfl ((Ls).mem ⟨p,s,_u⟩) w M I lab fz [A6,A7,AJ,AG,Iw,XA] [] ((Ls).args 0 ⟨p,s,_u⟩) ((λp:(Pr)×(Sf)×Unit=>Jd p.1 p.2.1) ⟨p,s,_u⟩) ((λp:(Pr)×(Sf)×Unit=>Jc p.1 p.2.1) ⟨p,s,_u⟩) xs hA hl hx (λv hv k hk=>by have:=(Ls).an 0 ⟨p,s,_u⟩ v hv k hk;omega) (jN rfl) (jN rfl) ?_
 clear hx hl hA xs
 simp only[Tryz.f100]
 have hc1:okP p:=hc
 have hI:=hc1.i
 have hdp:=K8 hc1
 cases i0:isT qV p with
 |true=>
  have hr:valF p=(⟨3,[],.nil,none⟩,adv p):=by simp[valF,i0]
  simp only[seval,go_sem,i0]
  repeat refine AX ?_
  exact AAJ
 |false=>
 cases i1:isT [38] p with
 |true=>
  have hr:valF p=(⟨1,E3 (adv p),.nil,none⟩,CI (adv p)):=by simp[valF,i0,i1]
  have ha:=B0 hc1 i1
  simp only[seval,go_sem,i0,i1,adv]
  have:=ha.ok;repeat refine AX ?_
  exact AAJ
 |false=>
 cases i2:isT [42] p with
 |true=>
  have hr:valF p=(⟨4,E3 (adv p),.nil,none⟩,CI (adv p)):=by simp[valF,i0,i1,i2]
  have ha:=B0 hc1 i2
  simp only[seval,go_sem,i0,i1,i2,adv]
  have:=ha.ok;repeat refine AX ?_
  exact AAJ
 |false=>
 have n5:IntKind.i64.wrap (p.i+1)=p.i+1:=by obtain⟨h1,h2,h3,_⟩:=hc1;exact wrap_i64 (by omega) (by omega)
 have q0:(0<=p.i+1)=True:=by have:=hc1.1;simp;omega
 cases i3:ahB [91] p with
 |true=>
  have hr:valF p=(⟨6,E3 p,(exS (adv (CI p))).1,none⟩,Bd [93] (exS (adv (CI p))).2):=by simp[valF,i0,i1,i2,i3]
  obtain⟨hna,z1,_,z2⟩:=fF hc1 i3
  have z0:decide (p.i+1<(p.l.length:Int))=true:=by simp[z1]
  have z0':(p.i+1<(p.l.length:Int))=True:=by simp[z1]
  have ha:=S9 hc1 i3
  have hs:=Ds ha.ok
  have hd:=K8 ha.ok
  simp only[seval,go_sem,i0,i1,i2,hna,n5,q0,z0,z0',z2]
  have:=ha.ok;have:=hs.ok;repeat refine AX ?_
  exact AAJ
 |false=>
 have g3:=i3
 unfold ahB tkA at g3
 simp only[w64i,n5]at g3
 cases i4:ahB [40] p with
 |true=>
  have hr:valF p=(⟨8,E3 p,.nil,some (argW (adv (CI p))).1⟩,(argW (adv (CI p))).2):=by simp[valF,i0,i1,i2,i3,i4]
  obtain⟨hna,z1,_,z2⟩:=fF hc1 i4
  have z0:decide (p.i+1<(p.l.length:Int))=true:=by simp[z1]
  have z0':(p.i+1<(p.l.length:Int))=True:=by simp[z1]
  have z3:((p.l.getD (p.i+1).toNat tk0).t==[91])=false:=by rw[hna,z0]at g3;simpa using g3
  have ha:=S9 hc1 i4
  simp only[seval,go_sem,i0,i1,i2,hna,n5,q0,z0,z0',z2,z3]
  have:=ha.ok;repeat refine AX ?_
  refine A1 [] ?_;simp only[seval,go_sem,bne,Jc,Jd,hr,arS,adv,PV,oR,Af,zSc]
 |false=>
 have hr:valF p=(⟨0,[],(exS p).1,none⟩,(exS p).2):=by simp[valF,i0,i1,i2,i3,i4]
 have g4:=i4
 unfold ahB tkA at g4
 simp only[w64i,n5]at g4
 simp only[seval,go_sem,i0,i1,i2,g3,g4,n5,q0]
 repeat' first|exact ck|with_reducible apply And.intro|intro _
 all_goals first|exact hI|exact hc1|exact hdp|(assumption)|(simp only[Bool.and_eq_true,decide_eq_true_eq]at *;omega)|exact KZ|(refine A1 [] ?_;simp only[seval,go_sem,bne,Jc,Jd,hr,arS,adv,PV,OO,Af,zSc])
noncomputable def Je{X:Ctx}{w0:World}:Sy.Spec Tryz.prog X w0:=D0 100 Tryz.call100 (Ls) _ _ _ KF1 KF0 (id (by intro p _;exact vB _ _ _)) vC
end
open Go Go.Sy Go.RowKit
abbrev smS(l:List Sm):C:=.d (.sl zSm (l.map Sm.r))
theorem A0D(n:Nat)(s:Sm):Rj n (.agg s.c)=true:=by
 show s.c.all (J8 n)=true
 unfold Sm.c
 simp only[List.all_cons,List.all_nil,bq,br,Bool.and_true]
 rfl
abbrev vD(f:Nat)(p:Pr):Prop:=okP p/\dpU f p
abbrev HG(f:Nat)(p:Pr):SV:=.agg (Ce f p).1.c
abbrev HH(f:Nat)(p:Pr):List (Option MV):=[some (zPr,[(Ce f p).2.c])]
noncomputable abbrev Nk:ArgM ((Pr)×Unit):=(amP (mPr) am0)
abbrev Nl(f:Nat):Prop:=C7 Tryz.prog 79 ((Nk).args 0) (Nk).mem (λp:(Pr)×Unit=>vD f p.1) (λp:(Pr)×Unit=>HG f p.1) (λp:(Pr)×Unit=>HH f p.1)
noncomputable def Kx{X:Ctx}{w0:World}(f:Nat)(h:Nl f):Sy.Spec Tryz.prog X w0:=D0 79 Tryz.call79 (Nk) _ _ _ KF1 (id (by intro p _;exact A0D _ _)) KF2 h
abbrev oV(f:Nat)(p:Pr):Prop:=okP p/\dpU f p
abbrev OP(f:Nat)(p:Pr):SV:=.one (smS (stmtsW (Ce f) p).1)
abbrev OQ(f:Nat)(p:Pr):List (Option MV):=[some (zPr,[(stmtsW (Ce f) p).2.c])]
noncomputable abbrev Lt:ArgM ((Pr)×Unit):=(amP (mPr) am0)
abbrev aT(f:Nat):Prop:=C7 Tryz.prog 66 ((Lt).args 0) (Lt).mem (λp:(Pr)×Unit=>oV f p.1) (λp:(Pr)×Unit=>OP f p.1) (λp:(Pr)×Unit=>OQ f p.1)
noncomputable def RK{X:Ctx}{w0:World}(f:Nat)(h:aT f):Sy.Spec Tryz.prog X w0:=D0 66 Tryz.call66 (Lt) _ _ _ KF1 KF0 KF2 h
attribute [local go_sem] Pr.c zTk
theorem eD(f:Nat)(hu:Nl f):aT f:=by
 rintro ⟨p,_u⟩ w M I lab fz xs hc hA hl hx
 refine Ac Tryz.func66 rfl ((Lt).mem ⟨p,_u⟩) w M I lab fz [A6,AB,(Kx f hu)] [] ((Lt).args 0 ⟨p,_u⟩) ((λp:(Pr)×Unit=>OQ f p.1) ⟨p,_u⟩) ((λp:(Pr)×Unit=>OP f p.1) ⟨p,_u⟩) xs hA hl hx (λv hv k hk=>by have:=(Lt).an 0 ⟨p,_u⟩ v hv k hk;omega) (jN rfl) (jN rfl) ?_
 clear hx hl hA xs
 simp only[Tryz.f66]
 obtain⟨hc1,hc2⟩:=hc
 dsimp only at hc1 hc2
 obtain⟨f',rfl⟩:∃f',f=f'+1:=by
  cases f with
  |zero=>
   have h3:p.deep<=40:=hc1.2.2.2.2.1
   have h4:41<=p.deep+((0:Nat):Int):=hc2
   exact absurd h4 (by simp;omega)
  |succ f=>exact⟨f,rfl⟩
 simp only[seval,go_sem,AV,Bb,A7,AO,AN,AB,AG,AJ,A6,Iw,Je,Dy,DX,Kx,Av,Au,Aw,Al,Tok.r,Ao,ptR,As,AR,AQ,AS]
 refine AC (Y:=Nat×List Sm×Pr) (λy=>okP y.2.2/\dpU (f'+1) y.2.2/\(y.2.2.e=0->(y.2.2.l.length:Int)+1<=y.2.2.i+(y.1:Int))/\(y.2.2.e=0->(y.2.1.length:Int)<=y.2.2.i)/\stmtsL (Ce (f'+1)) y.1 y.2.1 y.2.2=stmtsW (Ce (f'+1)) p)
  (λy=>⟨[(0,true,.one (.p 0 0 0)),(3,true,.one (.s 1000))],[(0,.vec 0 zPr [y.2.2.c]),(1000,.vec 0 zSc (y.2.1.map Sm.c))]⟩)
  (λy=>y.1) (p.l.length+1,[],p) ⟨hc1,hc2,λ_=>by have:=hc1.1;simp only;omega,λ_=>by simpa using hc1.1,rfl⟩ ?_ ?_
 .refine A2 [.nil 3 1000 zSc] ?_;simp only[seval,go_sem,zSc]
 rintro ⟨k,l,q⟩ ⟨h1,h2,h3,h4,h5⟩
 refine AP [A6,AB,Kx (f'+1) hu] [] _ _ _ ?_
 dsimp only at h1 h2 h3 h4 h5
 cases he:(q.e==0) with
 |false=>
  have hr2:stmtsW (Ce (f'+1)) p=(l,q):=by rw[<- h5];cases k<;>simp[stmtsL,he]
  simp only[seval,go_sem,AV,Bb,A7,AO,AN,AB,AG,AJ,A6,Iw,Je,Dy,DX,Kx,Av,Au,Aw,Al,Tok.r,Ao,ptR,As,AR,AQ,AS,he]
  repeat refine AX ?_
  refine A1 [.fz 1000] ?_;simp only[seval,go_sem,bne,OP,OQ,hr2,arS,smS,zSc,zSm,Hk.ds,Hk.fz]
 |true=>
 have he0:q.e=0:=by simpa using he
 obtain⟨k',rfl⟩:∃k',k=k'+1:=⟨k-1,by have:=h3 he0;have:=h1.2.1;omega⟩
 simp only[stmtsL,he,if_true]at h5
 have hs:=L9 (f'+1) q h1
 have hI:=h1.i
 have hle:l.length<=4096:=by have:=h4 he0;have:=h1.2.1;have:=h1.2.2.1;omega
 cases it:isT [125] q with
 |true=>
  rw[if_pos it]at h5
  simp only[seval,go_sem,AV,Bb,A7,AO,AN,AB,AG,AJ,A6,Iw,Je,Dy,DX,Kx,Av,Au,Aw,Al,Tok.r,Ao,ptR,As,AR,AQ,AS,he,it,Bt,adv]
  repeat refine AX ?_
  refine A1 [.fz 1000] ?_;simp only[seval,go_sem,bne,OP,OQ,<- h5,arS,adv,smS,zSc,zSm,Hk.ds,Hk.fz]
 |false=>
 rw[if_neg (by rw[it];decide)]at h5
 cases ib:decide ((q.l.length:Int)<=q.i) with
 |true=>
  rw[if_pos ib]at h5
  simp only[seval,go_sem,AV,Bb,A7,AO,AN,AB,AG,AJ,A6,Iw,Je,Dy,DX,Kx,Av,Au,Aw,Al,Tok.r,Ao,ptR,As,AR,AQ,AS,he,it,ib,Bt]
  repeat refine AX ?_
  refine A1 [] ?_;simp only[seval,go_sem,bne,OP,OQ,<- h5,arS,smS]
 |false=>
 rw[if_neg (by rw[ib];decide)]at h5
 simp only[seval,go_sem,AV,Bb,A7,AO,AN,AB,AG,AJ,A6,Iw,Je,Dy,DX,Kx,Av,Au,Aw,Al,Tok.r,Ao,ptR,As,AR,AQ,AS,he,it,ib,Bt,zSc,Sm.c,Hk.fn]
 repeat refine AX ?_
 refine⟨(k',l++[(Ce (f'+1) q).1],(Ce (f'+1) q).2),⟨hs.ok,by show dpU _ _;unfold dpU;rw[hs.d];exact h2,?_,?_,h5⟩,Nat.lt_succ_self _,
  BU (t:=⟨[(0,true,.one (.p 0 0 0)),(3,true,.one (.s 30))],[(0,.vec 0 zPr [(Ce (f'+1) q).2.c]),(30,.vec 0 zSc ((l++[(Ce (f'+1) q).1]).map Sm.c))]⟩) (A2 [] ?_) (A2 [.mv 30 1000] ?_)⟩
 .exact λhw0=>by have h6:=h3 he0;have e:=iR f' h1 hw0;dsimp only;rw[hs.l];omega
 .exact λhw0=>by have h6:=h4 he0;have e:=iR f' h1 hw0;simp only[jL3];omega
 .simp only[seval,go_sem,zSc,Hk.fn,List.flatMap_append,map_append,Sm.c]
 simp only[seval,go_sem,zSc,Hk.fn,Hk.mv]
abbrev oW(f:Nat)(p:Pr):Prop:=okP p/\dpU (f+1) p
abbrev OR(f:Nat)(p:Pr):SV:=.one (smS (blkW (Ce f) p).1)
abbrev OS(f:Nat)(p:Pr):List (Option MV):=[some (zPr,[(blkW (Ce f) p).2.c])]
noncomputable abbrev Lu:ArgM ((Pr)×Unit):=(amP (mPr) am0)
abbrev aU(f:Nat):Prop:=C7 Tryz.prog 98 ((Lu).args 0) (Lu).mem (λp:(Pr)×Unit=>oW f p.1) (λp:(Pr)×Unit=>OR f p.1) (λp:(Pr)×Unit=>OS f p.1)
noncomputable def aV{X:Ctx}{w0:World}(f:Nat)(h:aU f):Sy.Spec Tryz.prog X w0:=D0 98 Tryz.call98 (Lu) _ _ _ KF1 KF0 KF2 h
attribute[local go_sem] Tok.r Ao Aw AR Av Au AS ptR As AQ Al DX Kx RK Dy Iw AB AV AJ A7 AN A6 Je AG Bb AO in
theorem vE(f:Nat)(hu:Nl f):aU f:=by
 rintro ⟨p,_u⟩ w M I lab fz xs hc hA hl hx
 refine Ac Tryz.func98 rfl ((Lu).mem ⟨p,_u⟩) w M I lab fz [AV,AB,AN,(RK f (eD f hu))] [] ((Lu).args 0 ⟨p,_u⟩) ((λp:(Pr)×Unit=>OS f p.1) ⟨p,_u⟩) ((λp:(Pr)×Unit=>OR f p.1) ⟨p,_u⟩) xs hA hl hx (λv hv k hk=>by have:=(Lu).an 0 ⟨p,_u⟩ v hv k hk;omega) (jN rfl) (jN rfl) ?_
 clear hx hl hA xs
 simp only[Tryz.f98]
 obtain⟨hc1,hc2⟩:=hc
 dsimp only at hc1 hc2
 have hI:=hc1.i
 cases i0:isT [123] p with
 |false=>
  have hr:blkW (Ce f) p=([],DK 51 p):=by simp[blkW,i0]
  simp only[seval,go_sem,i0]
  repeat refine AX ?_
  refine A1 [] ?_;simp only[seval,go_sem,bne,OR,OS,hr,arS,smS]
 |true=>
 cases ob:Fh p with
 |false=>
  have hr:blkW (Ce f) p=([],CO p):=by simp[blkW,i0,ob]
  simp only[seval,go_sem,i0,ob]
  repeat refine AX ?_
  refine A1 [] ?_;simp only[seval,go_sem,bne,OR,OS,hr,arS,smS]
 |true=>
 have hr:blkW (Ce f) p=((stmtsW (Ce f) (adv (CO p))).1,shut (stmtsW (Ce f) (adv (CO p))).2):=by simp[blkW,i0,ob]
 have ha:=Ef hc1 ob (BA i0).2
 have hd:=MS hc1 ob hc2
 simp only[seval,go_sem,i0,ob]
 have:=ha.ok;repeat refine AX ?_
 refine A1 [] ?_;simp only[seval,go_sem,bne,OR,OS,hr,arS,smS,shut,adv]
end Go.Proofs.YtapedeoheilnnaaGreat
