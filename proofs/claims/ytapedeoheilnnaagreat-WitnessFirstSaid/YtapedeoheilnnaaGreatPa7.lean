/- Statements, blocks, walked. No conditions but those in each statement. -/
import Derived.Test.YtapedeoheilnnaaGreatPo
set_option linter.all false
set_option maxRecDepth 20000
set_option maxHeartbeats 16000000
namespace Go.Proofs.YtapedeoheilnnaaGreat
open Go Go.Sy Go.RowKit
theorem IN{P:Prop}(h:P:=by refine A1 [] ?_;simp only[seval,go_sem,bne,HG,HH,hr,arS,smS,↓DC,↓Du,↓Dv,↓EX,nxt,adv,Sm.c,Sm.k,Sm.x,Sm.y,Sm.e,Sm.f,Sm.cd,Sm.ar,Sm.th,Sm.el,Sm.no,Af,BD,KG,ifB,ifC]):P:=h
variable{p:Pr}
abbrev vD(f:Nat)(p:Pr):Prop:=okP p/\dpU f p
abbrev HG(f:Nat)(p:Pr):SV:=.agg (Ce f p).1.c
abbrev HH(f:Nat)(p:Pr):List (Option MV):=[some (zPr,[(Ce f p).2.c])]
noncomputable abbrev Nk:ArgM ((Pr)×Unit):=(amP (mPr) am0)
abbrev Nl(f:Nat):Prop:=C7 Tryz.prog 79 ((Nk).args 0) (Nk).mem (λp:(Pr)×Unit=>vD f p.1) (λp:(Pr)×Unit=>HG f p.1) (λp:(Pr)×Unit=>HH f p.1)
noncomputable def Kx{X:Ctx}{w0:World}(f:Nat)(h:Nl f):Sy.Spec Tryz.prog X w0:=D0 79 Tryz.call79 (Nk) _ _ _ KF1 (id (by intro p _;exact A0D _ _)) KF4 h
abbrev oV(f:Nat)(p:Pr):Prop:=okP p/\dpU f p
abbrev OP(f:Nat)(p:Pr):SV:=.one (smS (stmtsW (Ce f) p).1)
abbrev OQ(f:Nat)(p:Pr):List (Option MV):=[some (zPr,[(stmtsW (Ce f) p).2.c])]
noncomputable abbrev Lt:ArgM ((Pr)×Unit):=(amP (mPr) am0)
abbrev aT(f:Nat):Prop:=C7 Tryz.prog 66 ((Lt).args 0) (Lt).mem (λp:(Pr)×Unit=>oV f p.1) (λp:(Pr)×Unit=>OP f p.1) (λp:(Pr)×Unit=>OQ f p.1)
noncomputable def RK{X:Ctx}{w0:World}(f:Nat)(h:aT f):Sy.Spec Tryz.prog X w0:=D0 66 Tryz.call66 (Lt) _ _ _ KF1 KF0 KF4 h
section
attribute [local go_sem] Pr.c zTk
theorem eD(f:Nat)(hu:Nl f):aT f:=by
 rintro ⟨p,_u⟩ w M I lab fz xs hc hA hl hx
 refine Ac Tryz.func66 rfl ((Lt).mem ⟨p,_u⟩) w M I lab fz [A6,AB,(Kx f hu)] [] ((Lt).args 0 ⟨p,_u⟩) ((λp:(Pr)×Unit=>OQ f p.1) ⟨p,_u⟩) ((λp:(Pr)×Unit=>OP f p.1) ⟨p,_u⟩) xs hA hl hx (λv hv k hk=>by have:=(Lt).an 0 ⟨p,_u⟩ v hv k hk;omega) (jN rfl) (jN rfl) ?_
 clear hx hl hA xs
 simp only[Tryz.f66]
 obtain⟨hc1,hc2⟩:=hc
 dsimp only at hc1 hc2
 obtain⟨f',rfl⟩:∃f',f=f'+1:=by
  cases f with
  |zero=>
   have h3:p.deep<=40:=hc1.2.2.2.2.1
   have h4:41<=p.deep+((0:Nat):Int):=hc2
   exact absurd h4 (by simp;omega)
  |succ f=>exact⟨f,rfl⟩
 simp only[seval,go_sem,AV,Bb,A7,AO,AN,AB,AG,AJ,A6,Iw,Je,Dy,DX,Kx,Av,Au,Aw,Al,Tok.r,Ao,ptR,As,AR,AQ,AS]
 refine AC (Y:=Nat×List Sm×Pr) (λy=>okP y.2.2/\dpU (f'+1) y.2.2/\(y.2.2.e=0->(y.2.2.l.length:Int)+1<=y.2.2.i+(y.1:Int))/\(y.2.2.e=0->(y.2.1.length:Int)<=y.2.2.i)/\stmtsL (Ce (f'+1)) y.1 y.2.1 y.2.2=stmtsW (Ce (f'+1)) p)
  (λy=>⟨[(0,true,.one (.p 0 0 0)),(3,true,.one (.s 1000))],[(0,.vec 0 zPr [y.2.2.c]),(1000,.vec 0 zSc (y.2.1.map Sm.c))]⟩)
  (λy=>y.1) (p.l.length+1,[],p) ⟨hc1,hc2,λ_=>by have:=hc1.1;simp only;omega,λ_=>by simpa using hc1.1,rfl⟩ ?_ ?_
 .refine A2 [.nil 3 1000 zSc] ?_;simp only[seval,go_sem,zSc]
 rintro ⟨k,l,q⟩ ⟨h1,h2,h3,h4,h5⟩
 refine AP [A6,AB,Kx (f'+1) hu] [] _ _ _ ?_
 dsimp only at h1 h2 h3 h4 h5
 cases he:(q.e==0) with
 |false=>
  have hr2:stmtsW (Ce (f'+1)) p=(l,q):=by rw[<- h5];cases k<;>simp[stmtsL,he]
  simp only[seval,go_sem,AV,Bb,A7,AO,AN,AB,AG,AJ,A6,Iw,Je,Dy,DX,Kx,Av,Au,Aw,Al,Tok.r,Ao,ptR,As,AR,AQ,AS,he]
  repeat refine AX ?_
  refine A1 [.fz 1000] ?_;simp only[seval,go_sem,bne,OP,OQ,hr2,arS,smS,zSc,zSm,Hk.ds,Hk.fz]
 |true=>
 have he0:q.e=0:=by simpa using he
 obtain⟨k',rfl⟩:∃k',k=k'+1:=⟨k-1,by have:=h3 he0;have:=h1.2.1;omega⟩
 simp only[stmtsL,he,if_true]at h5
 have hs:=L9 (f'+1) q h1
 have hI:=h1.i
 have hle:l.length<=4096:=by have:=h4 he0;have:=h1.2.1;have:=h1.2.2.1;omega
 cases it:isT [125] q with
 |true=>
  rw[if_pos it]at h5
  simp only[seval,go_sem,AV,Bb,A7,AO,AN,AB,AG,AJ,A6,Iw,Je,Dy,DX,Kx,Av,Au,Aw,Al,Tok.r,Ao,ptR,As,AR,AQ,AS,he,it,Bt,adv]
  repeat refine AX ?_
  refine A1 [.fz 1000] ?_;simp only[seval,go_sem,bne,OP,OQ,<- h5,arS,adv,smS,zSc,zSm,Hk.ds,Hk.fz]
 |false=>
 rw[if_neg (by rw[it];decide)]at h5
 cases ib:decide ((q.l.length:Int)<=q.i) with
 |true=>
  rw[if_pos ib]at h5
  simp only[seval,go_sem,AV,Bb,A7,AO,AN,AB,AG,AJ,A6,Iw,Je,Dy,DX,Kx,Av,Au,Aw,Al,Tok.r,Ao,ptR,As,AR,AQ,AS,he,it,ib,Bt]
  repeat refine AX ?_
  refine A1 [] ?_;simp only[seval,go_sem,bne,OP,OQ,<- h5,arS,smS]
 |false=>
 rw[if_neg (by rw[ib];decide)]at h5
 simp only[seval,go_sem,AV,Bb,A7,AO,AN,AB,AG,AJ,A6,Iw,Je,Dy,DX,Kx,Av,Au,Aw,Al,Tok.r,Ao,ptR,As,AR,AQ,AS,he,it,ib,Bt,zSc,Sm.c,Hk.fn]
 repeat refine AX ?_
 refine⟨(k',l++[(Ce (f'+1) q).1],(Ce (f'+1) q).2),⟨hs.ok,by show dpU _ _;unfold dpU;rw[hs.d];exact h2,?_,?_,h5⟩,Nat.lt_succ_self _,
  BU (t:=⟨[(0,true,.one (.p 0 0 0)),(3,true,.one (.s 30))],[(0,.vec 0 zPr [(Ce (f'+1) q).2.c]),(30,.vec 0 zSc ((l++[(Ce (f'+1) q).1]).map Sm.c))]⟩) (A2 [] ?_) (A2 [.mv 30 1000] ?_)⟩
 .exact λhw0=>by have h6:=h3 he0;have e:=iR f' h1 hw0;dsimp only;rw[hs.l];omega
 .exact λhw0=>by have h6:=h4 he0;have e:=iR f' h1 hw0;simp only[jL3];omega
 .simp only[seval,go_sem,zSc,Hk.fn,List.flatMap_append,List.map_append,Sm.c]
 simp only[seval,go_sem,zSc,Hk.fn,Hk.mv]
abbrev oW(f:Nat)(p:Pr):Prop:=okP p/\dpU (f+1) p
abbrev OR(f:Nat)(p:Pr):SV:=.one (smS (blkW (Ce f) p).1)
abbrev OS(f:Nat)(p:Pr):List (Option MV):=[some (zPr,[(blkW (Ce f) p).2.c])]
noncomputable abbrev Lu:ArgM ((Pr)×Unit):=(amP (mPr) am0)
abbrev aU(f:Nat):Prop:=C7 Tryz.prog 98 ((Lu).args 0) (Lu).mem (λp:(Pr)×Unit=>oW f p.1) (λp:(Pr)×Unit=>OR f p.1) (λp:(Pr)×Unit=>OS f p.1)
noncomputable def aV{X:Ctx}{w0:World}(f:Nat)(h:aU f):Sy.Spec Tryz.prog X w0:=D0 98 Tryz.call98 (Lu) _ _ _ KF1 KF0 KF4 h
attribute[local go_sem] Tok.r Ao Aw AR Av Au AS ptR As AQ Al DX Kx RK Dy Iw AB AV AJ A7 AN A6 Je AG Bb AO in
theorem vE(f:Nat)(hu:Nl f):aU f:=by
 rintro ⟨p,_u⟩ w M I lab fz xs hc hA hl hx
 refine Ac Tryz.func98 rfl ((Lu).mem ⟨p,_u⟩) w M I lab fz [AV,AB,AN,(RK f (eD f hu))] [] ((Lu).args 0 ⟨p,_u⟩) ((λp:(Pr)×Unit=>OS f p.1) ⟨p,_u⟩) ((λp:(Pr)×Unit=>OR f p.1) ⟨p,_u⟩) xs hA hl hx (λv hv k hk=>by have:=(Lu).an 0 ⟨p,_u⟩ v hv k hk;omega) (jN rfl) (jN rfl) ?_
 clear hx hl hA xs
 simp only[Tryz.f98]
 obtain⟨hc1,hc2⟩:=hc
 dsimp only at hc1 hc2
 have hI:=hc1.i
 cases i0:isT [123] p with
 |false=>
  have hr:blkW (Ce f) p=([],DK 51 p):=by simp[blkW,i0]
  simp only[seval,go_sem,i0]
  repeat refine AX ?_
  refine A1 [] ?_;simp only[seval,go_sem,bne,OR,OS,hr,arS,smS]
 |true=>
 cases ob:Fh p with
 |false=>
  have hr:blkW (Ce f) p=([],CO p):=by simp[blkW,i0,ob]
  simp only[seval,go_sem,i0,ob]
  repeat refine AX ?_
  refine A1 [] ?_;simp only[seval,go_sem,bne,OR,OS,hr,arS,smS]
 |true=>
 have hr:blkW (Ce f) p=((stmtsW (Ce f) (adv (CO p))).1,shut (stmtsW (Ce f) (adv (CO p))).2):=by simp[blkW,i0,ob]
 have ha:=Ef hc1 ob (BA i0).2
 have hd:=MS hc1 ob hc2
 simp only[seval,go_sem,i0,ob]
 have:=ha.ok;repeat refine AX ?_
 refine A1 [] ?_;simp only[seval,go_sem,bne,OR,OS,hr,arS,smS,shut,adv]
end
open Go Go.Sy Go.RowKit
section
attribute [local go_sem] Pr.c Tok.r Ao Aw AR Av Au A4h rP rO AS ptR As AQ Al PV aV DX Dy Iw AB AV AJ A7 AN A6 Je AG Bb AO zSc zTk
theorem tW(f:Nat)(hu:Nl f):Nl (f+1):=by
 rintro ⟨p,_u⟩ w M I lab fz xs hc hA hl hx
 refine Ac Tryz.func79 rfl ((Nk).mem ⟨p,_u⟩) w M I lab fz [AV,A7,AB,AG,AJ,A6,Iw,Je,XA,A43,(aV f (vE f hu))] [] ((Nk).args 0 ⟨p,_u⟩) ((λp:(Pr)×Unit=>HH (f+1) p.1) ⟨p,_u⟩) ((λp:(Pr)×Unit=>HG (f+1) p.1) ⟨p,_u⟩) xs hA hl hx (λv hv k hk=>by have:=(Nk).an 0 ⟨p,_u⟩ v hv k hk;omega) (jN rfl) (jN rfl) ?_
 clear hx hl hA xs
 simp only[Tryz.f79]
 obtain⟨hc1,hc2⟩:=hc
 dsimp only at hc1 hc2
 have hI:=hc1.i
 have hq:=Pj hc1
 have hqI:=hq.ok.i
 have hqd:=GG hq hc2
 cases hk:(fE p&&decide (200<=p.n)) with
 |true=>
  have hr:Ce (f+1) p=(sm0 p.n,DK 53 p):=by simp only[Ce];rw[if_pos hk]
  simp only[fE]at hk
  simp only[seval,go_sem,↓DC,↓Du,↓Dv,↓EX,hk]
  repeat refine AX ?_
  refine A1 [] ?_;simp only[seval,go_sem,bne,HG,HH,hr,arS,smS,↓DC,↓Du,↓Dv,↓EX,sm0,Sm.c,Sm.k,Sm.x,Sm.y,Sm.e,Sm.f,Sm.cd,Sm.ar,Sm.th,Sm.el,Sm.no,Af,BD,KG,ifB,ifC]
 |false=>
 have hr0:Ce (f+1) p=HW (Ce f) p.n (nxt p):=by simp only[Ce];rw[if_neg (by rw[hk];decide)]
 simp only[fE]at hk
 cases i1:isT mS (nxt p) with
 |true=>
  have j1:=i1
  simp only[nxt]at j1
  have hr:Ce (f+1) p=(.mk 9 [] [] (exS (adv (nxt p))).1 .nil .nil [] [] [] p.n,Bd [59] (exS (adv (nxt p))).2):=by rw[hr0];simp[HW,i1]
  have ha:=B0 hq.ok i1
  have hs:=Ds ha.ok
  have hd:=K8 ha.ok
  simp only[seval,go_sem,↓DC,↓Du,↓Dv,↓EX,hk,j1,Bt,adv]
  have:=hq.ok;have:=ha.ok;have:=hs.ok;repeat refine AX ?_
  exact IN
 |false=>
 have j1:=i1
 simp only[nxt]at j1
 cases i2:isT mU (nxt p) with
 |true=>
  have j2:=i2
  simp only[nxt]at j2
  have hr:Ce (f+1) p=(.mk 12 [] [] .nil .nil (ifC (nxt p)).1 [] [] [] p.n,Bd [59] (Bd [41] (ifC (nxt p)).2)):=by rw[hr0];simp[HW,i1,i2]
  have ha:=B0 hq.ok i2
  have hw:=Ak (t:=[40]) ha.ok
  have hd:=K8 hw.ok
  have hcd:=SL hw.ok
  have hw2:=Ak (t:=[41]) hcd.ok
  simp only[seval,go_sem,↓DC,↓Du,↓Dv,↓EX,hk,j1,j2,Bt,adv]
  have:=hq.ok;have:=ha.ok;have:=hw.ok;have:=hcd.ok;have:=hw2.ok;repeat refine AX ?_
  exact IN
 |false=>
 have j2:=i2
 simp only[nxt]at j2
 cases i3:isT mV (nxt p) with
 |true=>
  have j3:=i3
  simp only[nxt]at j3
  have hr:Ce (f+1) p=(.mk 11 [] [] .nil .nil (ifC (nxt p)).1 [] (ifB (blkW (Ce f)) (nxt p)).1 [] p.n,(ifB (blkW (Ce f)) (nxt p)).2):=by rw[hr0];simp[HW,i1,i2,i3]
  have ha:=B0 hq.ok i3
  have hw:=Ak (t:=[40]) ha.ok
  have hd:=K8 hw.ok
  have hcd:=SL hw.ok
  have hw2:=Ak (t:=[41]) hcd.ok
  have hdd:=GG (((ha.trans hw).trans hcd).trans hw2) hqd
  simp only[seval,go_sem,↓DC,↓Du,↓Dv,↓EX,hk,j1,j2,j3,Bt,adv]
  have:=hq.ok;have:=ha.ok;have:=hw.ok;have:=hcd.ok;have:=hw2.ok;repeat refine AX ?_
  exact IN
 |false=>
 have j3:=i3
 simp only[nxt]at j3
 cases i4:isT tIf (nxt p) with
 |true=>
  have j4:=i4
  simp only[nxt]at j4
  have ha:=B0 hq.ok i4
  have hw:=Ak (t:=[40]) ha.ok
  have hd:=K8 hw.ok
  have hcd:=SL hw.ok
  have hw2:=Ak (t:=[41]) hcd.ok
  have hnn:=((ha.trans hw).trans hcd).trans hw2
  have hdd:=GG hnn hqd
  have hb:=Lc (L9 f) hw2.ok
  cases i5:isT qW (ifB (blkW (Ce f)) (nxt p)).2 with
  |true=>
   have hr:Ce (f+1) p=(.mk 10 [] [] .nil .nil (ifC (nxt p)).1 [] (ifB (blkW (Ce f)) (nxt p)).1 (blkW (Ce f) (adv (ifB (blkW (Ce f)) (nxt p)).2)).1 p.n,(blkW (Ce f) (adv (ifB (blkW (Ce f)) (nxt p)).2)).2):=by rw[hr0];simp[HW,i1,i2,i3,i4,i5]
   have hb2:=B0 hb.ok i5
   have hde:=GG ((hnn.trans hb).trans hb2) hqd
   have j5:=i5
   simp only[nxt,ifB,ifC,adv]at j5
   simp only[seval,go_sem,↓DC,↓Du,↓Dv,↓EX,hk,j1,j2,j3,j4,j5,Bt,adv]
   have:=hq.ok;have:=ha.ok;have:=hw.ok;have:=hcd.ok;have:=hw2.ok;have:=hb.ok;have:=hb2.ok;repeat refine AX ?_
   exact IN
  |false=>
  have hr:Ce (f+1) p=(.mk 10 [] [] .nil .nil (ifC (nxt p)).1 [] (ifB (blkW (Ce f)) (nxt p)).1 [] p.n,(ifB (blkW (Ce f)) (nxt p)).2):=by rw[hr0];simp[HW,i1,i2,i3,i4,i5]
  have j5:=i5
  simp only[nxt,ifB,ifC,adv]at j5
  simp only[seval,go_sem,↓DC,↓Du,↓Dv,↓EX,hk,j1,j2,j3,j4,j5,Bt,adv]
  have:=hq.ok;have:=ha.ok;have:=hw.ok;have:=hcd.ok;have:=hw2.ok;have:=hb.ok;repeat refine AX ?_
  exact IN
 |false=>
 have j4:=i4
 simp only[nxt]at j4
 cases i6:isT [42] (nxt p) with
 |true=>
  have j6:=i6
  simp only[nxt]at j6
  have hr:Ce (f+1) p=(.mk 5 (E3 (adv (nxt p))) [] (exS (Bd [61] (CI (adv (nxt p))))).1 .nil .nil [] [] [] p.n,Bd [59] (exS (Bd [61] (CI (adv (nxt p))))).2):=by rw[hr0];simp[HW,i1,i2,i3,i4,i6]
  have ha:=B0 hq.ok i6
  have hn:=Fl ha.ok
  have hw:=Ak (t:=[61]) hn.ok
  have hd:=K8 hw.ok
  have hs:=Ds hw.ok
  simp only[seval,go_sem,↓DC,↓Du,↓Dv,↓EX,hk,j1,j2,j3,j4,j6,Bt,adv]
  have:=hq.ok;have:=ha.ok;have:=hn.ok;have:=hw.ok;have:=hs.ok;repeat refine AX ?_
  exact IN
 |false=>
 have j6:=i6
 simp only[nxt]at j6
 have hn:=Fl hq.ok
 cases i7:isT [40] (CI (nxt p)) with
 |true=>
  have j7:=i7
  simp only[nxt]at j7
  have hr:Ce (f+1) p=(.mk 8 [] (E3 (nxt p)) .nil .nil .nil (argW (adv (CI (nxt p)))).1 [] [] p.n,Bd [59] (argW (adv (CI (nxt p)))).2):=by rw[hr0];simp[HW,i1,i2,i3,i4,i6,i7]
  have ha:=B0 hn.ok i7
  have hs:=QA ha.ok
  simp only[seval,go_sem,↓DC,↓Du,↓Dv,↓EX,hk,j1,j2,j3,j4,j6,j7,Bt,adv]
  have:=hq.ok;have:=ha.ok;have:=hn.ok;have:=hs.ok;repeat refine AX ?_
  exact IN
 |false=>
 have j7:=i7
 simp only[nxt]at j7
 cases i8:isT [91] (CI (nxt p)) with
 |true=>
  have j8:=i8
  simp only[nxt]at j8
  have hr:Ce (f+1) p=(.mk 7 [] (E3 (nxt p)) (exS (adv (CI (nxt p)))).1 (exS (Bd [61] (Bd [93] (exS (adv (CI (nxt p)))).2))).1 .nil [] [] [] p.n,Bd [59] (exS (Bd [61] (Bd [93] (exS (adv (CI (nxt p)))).2))).2):=by rw[hr0];simp[HW,i1,i2,i3,i4,i6,i7,i8]
  have ha:=B0 hn.ok i8
  have hd:=K8 ha.ok
  have hs:=Ds ha.ok
  have hw:=Ak (t:=[93]) hs.ok
  have hw2:=Ak (t:=[61]) hw.ok
  have hd2:=K8 hw2.ok
  have hs2:=Ds hw2.ok
  simp only[seval,go_sem,↓DC,↓Du,↓Dv,↓EX,hk,j1,j2,j3,j4,j6,j7,j8,Bt,adv]
  have:=hq.ok;have:=ha.ok;have:=hn.ok;have:=hs.ok;have:=hw.ok;have:=hw2.ok;have:=hs2.ok;repeat refine AX ?_
  exact IN
 |false=>
 have j8:=i8
 simp only[nxt]at j8
 have hr:Ce (f+1) p=(.mk (valF (Bd [61] (CI (nxt p)))).1.k (E3 (nxt p)) (valF (Bd [61] (CI (nxt p)))).1.y (valF (Bd [61] (CI (nxt p)))).1.e .nil .nil ((valF (Bd [61] (CI (nxt p)))).1.a.getD []) [] [] p.n,Bd [59] (valF (Bd [61] (CI (nxt p)))).2):=by rw[hr0];simp[HW,i1,i2,i3,i4,i6,i7,i8]
 have hw:=Ak (t:=[61]) hn.ok
 have hv:=VG hw.ok
 simp only[seval,go_sem,↓DC,↓Du,↓Dv,↓EX,hk,j1,j2,j3,j4,j6,j7,j8,Bt,adv]
 have:=hq.ok;have:=hn.ok;have:=hw.ok;have:=hv.ok;repeat refine AX ?_
 exact IN
theorem jC:∀f:Nat,Nl f
 |0=>by
  exact Ye
 |f+1=>tW f (jC f)
noncomputable abbrev JC{X:Ctx}{w0:World}:Sy.Spec Tryz.prog X w0:=RK 41 (eD 41 (jC 41))
end
open Go Go.Sy Go.RowKit
def Zt(l:List Vr)(most:Int)(p:Pr):Bool:=nameB p&&decide (most<=(l.length:Int))
def J4(l:List Vr)(ptr:Bool)(most:Int)(p:Pr):List Vr:=if Zt l most p=true then l else l++[⟨E3 p,ptr⟩]
def Ga(l:List Vr)(most:Int)(p:Pr):Pr:=if Zt l most p=true then DK 53 p else CI p
theorem SI{l:List Vr}{most:Int}(h:okP p):Nx p (Ga l most p):=by
 unfold Ga;split
 .exact FY 53 h
 exact Fl h
theorem R5(l:List Vr)(ptr:Bool)(most:Int)(p:Pr):(J4 l ptr most p).length<=l.length+1:=by unfold J4;split<;>simp
def R6:Nat->List Vr->Pr->R (List Vr)
 |0,l,p=>(l,p)
 |k+1,l,p=>
  if (p.e==0)=true then
   (
    if isT [41] (Ga l 6 (Bt [42] p))=true then (J4 l (isT [42] p) 6 (Bt [42] p),adv (Ga l 6 (Bt [42] p)))
    else R6 k (J4 l (isT [42] p) 6 (Bt [42] p)) (Bd [44] (Ga l 6 (Bt [42] p))))
  else (l,p)
def Ua(p:Pr):R (List Vr):=if isT [41] p=true then ([],adv p) else R6 (p.l.length+1) [] p
def Wt(p:Pr):Bool:=isT A6r p||isT tPtr p
def PQ:Nat->List Vr->Pr->R (List Vr)
 |0,l,p=>(l,p)
 |k+1,l,p=>
  if Wt p=true then PQ k (J4 l (isT tPtr p) 20 (adv p)) (Bd [59] (Ga l 20 (adv p)))
  else (l,p)
def Wu(p:Pr):R (List Vr):=PQ p.l.length [] p
def KW(p:Pr):Pr:=if isT [123] p=true then (if Fh p=true then adv (CO p) else DK 51 (CO p)) else DK 51 p
def SJ(p:Pr):Pr:=if (p.e==0&&decide (p.i<(p.l.length:Int)))=true then DK 51 p else p
def p0(l:List Tok)(n:Int):Pr:=⟨l,0,n,0,0,0,0⟩
def hdP(l:List Tok)(n:Int):Pr:=Bd tFn (p0 l n)
def hd2(l:List Tok)(n:Int):Pr:=Bd [40] (CI (hdP l n))
def fp3(l:List Tok)(n:Int):R (List Vr):=Ua (hd2 l n)
def fp4(l:List Tok)(n:Int):R (List Vr):=Wu (KW (fp3 l n).2)
def fp5(l:List Tok)(n:Int):R (List Sm):=A6s (fp4 l n).2
def fp6(l:List Tok)(n:Int):Pr:=SJ (fp5 l n).2
def Fp(s:List UInt8):Fn×Int×Int:=
 if (rxT s).2.2 != 0 then (fn0,(rxT s).2.1,(rxT s).2.2)
 else if (fp6 (rxT s).1 (s.length:Int)).e != 0 then (fn0,(fp6 (rxT s).1 (s.length:Int)).at',(fp6 (rxT s).1 (s.length:Int)).e)
 else (⟨E3 (hdP (rxT s).1 (s.length:Int)),(fp3 (rxT s).1 (s.length:Int)).1,(fp4 (rxT s).1 (s.length:Int)).1,(fp5 (rxT s).1 (s.length:Int)).1⟩,0,0)
theorem Vc(s:List UInt8)(hs:s.length<=4096):∀(f i:Nat) (out:List Tok),i<=s.length->out.length<=i->(∀x∈out,x.t.length<=4096)->(rxF s f i out).1.length<=4096/\∀x∈(rxF s f i out).1,x.t.length<=4096
 |0,i,out,hi,ho,hx=>⟨by show out.length<=4096;omega,hx⟩
 |f+1,i,out,hi,ho,hx=>by
  have hnil:([]:List Tok).length<=4096/\∀x∈([]:List Tok),x.t.length<=4096:=⟨by simp,by simp⟩
  have hsn:∀(k n:Nat) (kd:Int),0<n->i+n<=s.length->(rxF s f (i+n) (out++[⟨kd,(s.drop i).take k,(i:Int)⟩])).1.length<=4096/\∀x∈(rxF s f (i+n) (out++[⟨kd,(s.drop i).take k,(i:Int)⟩])).1,x.t.length<=4096:=by
   intro k n kd hn hin
   refine Vc s hs f (i+n) _ hin (by simp;omega) ?_
   intro x hxm
   rcases List.mem_append.1 hxm with h|h
   .exact hx x h
   grind
  simp only[rxF]
  split
  .grind
  rename_i hlt
  have hlt:i<s.length:=by omega
  have sp:=λp=>Of p (s.drop i)
  simp only[List.length_drop]at sp
  split
  .exact Vc s hs f _ _ (by omega) (by omega) hx
  split
  .exact Vc s hs f _ _ (by have:=sp nlB;omega) (by omega) hx
  split
  .rename_i hl
   have h1:=Ji idB hlt
   rw[if_pos (show idB _=true by show (M3 _||F9 _)=true;rw[hl];rfl)]at h1
   split
   .exact hnil
   grind
  split
  .rename_i hd
   have h1:=Ji F9 hlt
   rw[if_pos hd]at h1
   split
   .exact hnil
   split
   .exact hnil
   grind
  split
  .rename_i ht
   unfold iE at ht
   simp only[Bool.and_eq_true,decide_eq_true_eq]at ht
   exact hsn 2 2 2 (by omega) (by omega)
  split
  .grind
  exact hnil
theorem jD(s:List UInt8):(rxT s).1.length<=4096/\∀x∈(rxT s).1,x.t.length<=4096:=by
 unfold rxT
 split
 .simp_all
 rename_i h
 exact Vc s (by simp at h;omega) _ 0 [] (Nat.zero_le _) (Nat.le_refl _) (by simp)
theorem fX(s:List UInt8)(n:Int):okP (p0 (rxT s).1 n):=⟨Int.le_refl _,by show (0:Int)<=_;omega,(jD s).1,Int.le_refl _,by show (0:Int)<=40;decide,(jD s).2⟩
theorem jE(s:List UInt8)(n:Int):Nx (p0 (rxT s).1 n) (hdP (rxT s).1 n):=Ak (fX s n)
theorem Zu(s:List UInt8)(n:Int):Nx (p0 (rxT s).1 n) (hd2 (rxT s).1 n):=by
 have h1:=jE s n
 have h2:=h1.trans (Fl h1.ok)
 exact h2.trans (Ak h2.ok)
theorem dL:∀(k:Nat) (l:List Vr) (p:Pr),okP p->Nx p (R6 k l p).2
 |0,l,p,h=>.refl h
 |k+1,l,p,h=>by
  simp only[R6]
  split
  .have h1:=ie (t:=[42]) h
   have h2:=h1.trans (SI (l:=l) (most:=6) h1.ok)
   split
   .rename_i hi;exact h2.trans (B0 h2.ok hi)
   have h3:=h2.trans (Ak (t:=[44]) h2.ok)
   exact h3.trans (dL k _ _ h3.ok)
  exact .refl h
theorem Wv(h:okP p):Nx p (Ua p).2:=by
 unfold Ua;split
 .rename_i hi;exact B0 h hi
 exact dL _ _ _ h
theorem Vd(h:Wt p=true):p.e=0/\p.i<(p.l.length:Int):=by
 unfold Wt at h
 simp only[Bool.or_eq_true]at h
 rcases h with h|h<;>exact BA h
theorem TG:∀(k:Nat) (l:List Vr) (p:Pr),okP p->Nx p (PQ k l p).2
 |0,l,p,h=>.refl h
 |k+1,l,p,h=>by
  simp only[PQ]
  split
  .rename_i hb
   have h1:=Ey h (Vd hb).2 (Vd hb).1
   have h2:=h1.trans (SI (l:=l) (most:=20) h1.ok)
   have h3:=h2.trans (Ak (t:=[59]) h2.ok)
   exact h3.trans (TG k _ _ h3.ok)
  exact .refl h
end Go.Proofs.YtapedeoheilnnaaGreat
