/- first, with each of its closures, walked. No conditions but those in each statement. -/
import Derived.Test.YtapedeoheilnnaaGreatRmf
set_option linter.all false
set_option maxRecDepth 20000
set_option maxHeartbeats 16000000
open Option (isSome_some isSome_none)
open List (append_nil mem_singleton mem_cons not_mem_nil flatMap_cons flatMap_nil drop_eq_nil_of_le)
namespace Go.Proofs.YtapedeoheilnnaaGreat
open Go Go.Sy Go.RowKit
theorem JZ{P:Prop}(h:P:=by
 intro v hv k hk
 simp only[LK,mem_cons,not_mem_nil,or_false]at hv
 rcases hv with rfl|rfl
 .cases hk
 simp only[SV.names,C.names,flatMap_cons,flatMap_nil,append_nil,capN,mem_singleton]at hk
 subst hk;show 0<1;decide):P:=h
theorem SR{P:Prop}(h:P:=by
 have:=hb.1;have:=hb.2;repeat refine AX ?_
 refine⟨(i+1,B5 es s (i:Int)),⟨hlt,hJ2⟩,by dsimp only;omega,A2 [] ?_⟩
 simp only[seval,go_sem,xt,↓A0,KF]):P:=h
theorem SY{P:Prop}(h:P:=by
 have:=hb.1;have:=hb.2;repeat refine AX ?_
 refine⟨(i+1,es),⟨hlt,hJ2⟩,by dsimp only;omega,A2 [] ?_⟩
 simp only[seval,go_sem,xt,↓A0,KF]):P:=h
theorem v8{P:Prop}(h:P:=by refine A2 [] ?_;simp only[seval,go_sem,xt,↓A0,Ng]):P:=h
theorem Vv{s:List UInt8}{r:List (List UInt8)}{i:Nat}{es:List (List UInt8×Int)}:Gc (s::r) i es=Gc r (i+1) (if (AH es s).isSome=true then es else B5 es s (i:Int)):=rfl
theorem Ng:(List.map (λp:List UInt8×Int=>(p.1,[C.v (.int .i64 p.2)])) [])=[]:=rfl
theorem QX:∀q,some q∈([none]:List (Option MV))->∀r∈q.2,∀c∈r,c.names=[]:=by intro q hq;simp at hq
theorem KF(es:List (List UInt8×Int)):List.flatMap (λp=>List.flatMap C.names p.2) (es.map λp=>(p.1,[C.v (.int .i64 p.2)]))=[]:=List.flatMap_eq_nil_iff.2 λp hp=>by
 exact eC
theorem Nh:∀es:List (List UInt8×Int),Rb (es.map λp=>(p.1,[C.v (.int .i64 p.2)]))=some (mpI es)
 |[]=>rfl
 |(k,i)::r=>by
  have:=Nh r
  simp only[List.map_cons,Rb,this];rfl
abbrev ZL(q:Int×Pg):Prop:=q.1=((q.2.fs.map Fn.name).length:Int)/\(q.2.fs.map Fn.name).length<=1000000
abbrev XQ(q:Int×Pg):SV:=.one (.d (.mp (mpI (fI (q.2.fs.map Fn.name)))))
abbrev M_C1(q:Int×Pg):List (Option ML):=[some (.vec zPg [pgR q.2])]
attribute [local go_sem] Fa.mem Fa.memO Fa.pan ML.ch ML.ren Sm.ar Sm.cd Sm.e Sm.el Sm.f Sm.k Sm.no Sm.th Sm.x Sm.y LK Vt Vu H4 Gz H5 Di Bl Bk Be Bi Bj LJ LI DJ DI chL IJ F6 F5 Gv fcN JI Vq ZK frC IK Gx lmH lmO Tj P4 Ti Tm Tk Tl IL Hm DH Cj Ck nmX A5 A4 pgR Dh D3 D4 ED E9 E5 EE rnC Fx AF Ci DS Cu stR CU E8 vrQ IM JJ
theorem jk:Dj Tryz.prog 27 (Er 28 mPg).args (Er 28 mPg).mem ZL (λ_=>false) XQ M_C1 (λ_=>mlO [none]):=by
 rintro ⟨n,pp⟩ w M I lab fz xs ⟨hc1,hc2⟩ hA hl hx
 dsimp only at hc1 hc2
 refine Bz Tryz.func27 rfl [.vec zPg [pgR pp]] w M I lab fz false [none] (M_C1 (n,pp)) [QO] [(9,[.fzm 9])] ((Er 28 mPg).args (n,pp)) (XQ (n,pp)) xs hA hl hx ?_ (jN rfl) (Nat.le_refl _) rfl QX ?_
 .exact JZ
 clear hx hl hA xs
 subst hc1
 simp only[Tryz.f27]
 obtain⟨L,hL⟩:∃L,pp.fs.map Fn.name=L:=⟨_,rfl⟩
 have hlen:pp.fs.length=L.length:=by rw[<- hL];simp
 rw[hL]at hc2
 simp only[seval,go_sem,xt,↓A0,QO,OC,EV,EW,isSome_some,isSome_none,hL]
 refine AC (Y:=Nat×List (List UInt8×Int)) (λz=>z.1<=L.length/\Gc (L.drop z.1) z.1 z.2=fI L)
  (λz=>⟨[(1,true,.one (.fn 28 [.p 0 0 0])),(5,true,.one (.s 9)),(10,true,.one (.v (.int .i64 (L.length:Int)))),(11,true,.one (.v (.int .i64 (z.1:Int))))],[(0,.vec 0 zPg [pgR pp]),(9,.mp false (z.2.map λp=>(p.1,[C.v (.int .i64 p.2)])))]⟩)
  (λz=>L.length-z.1) (0,[]) ⟨Nat.zero_le _,rfl⟩ ?_ ?_
 .exact v8
 rintro ⟨i,es⟩ ⟨hi,hJ⟩
 dsimp only at hi hJ
 refine AP [QO] [(9,[.fzm 9])] _ _ _ ?_
 have w1:IntKind.i64.wrap ((i:Int)+1)=((i+1:Nat):Int):=by rw[wrap_i64 (by omega) (by omega)];rfl
 cases hx:L[i]? with
 |none=>
  have h2:=List.getElem?_eq_none_iff.1 hx
  have h1:=Ai h2
  rw[drop_eq_nil_of_le h2]at hJ
  have hJ':es=fI L:=hJ
  subst hJ'
  simp only[seval,go_sem,xt,↓A0,QO,OC,EV,EW,isSome_some,isSome_none,h1,hL,Nh]
  repeat refine AX ?_
  refine A1 [] ?_;simp only[seval,go_sem,bne,XQ,M_C1,A3,xt,↓A0,hL]
 |some s=>
 have hlt:=(List.getElem?_eq_some_iff.1 hx).1
 have h1:=Ah hlt
 have hs:L.getD i []=s:=by simp[List.getD,hx]
 have hb:(0:Int)<=(i:Int)/\(i:Int)<(pp.fs.length:Int):=by rw[hlen];omega
 rw[BF hx,Vv]at hJ
 cases hm:AH es s with
 |some j=>
  rw[hm]at hJ
  have hJ2:Gc (L.drop (i+1)) (i+1) es=fI L:=hJ
  simp only[seval,go_sem,xt,↓A0,QO,OC,EV,EW,isSome_some,isSome_none,h1,hL,hs,hm,w1]
  exact SY
 |none=>
 rw[hm]at hJ
 have hJ2:Gc (L.drop (i+1)) (i+1) (B5 es s (i:Int))=fI L:=hJ
 simp only[seval,go_sem,xt,↓A0,QO,OC,EV,EW,isSome_some,isSome_none,h1,hL,hs,hm,w1]
 exact SR
abbrev ZM(q:Int×Pg):Prop:=q.1=((q.2.g.c).length:Int)/\(q.2.g.c).length<=1000000
abbrev XR(q:Int×Pg):SV:=.one (.d (.mp (mpI (fI (q.2.g.c)))))
abbrev XS(q:Int×Pg):List (Option ML):=[some (.vec zPg [pgR q.2])]
theorem jl:Dj Tryz.prog 27 (Er 29 mPg).args (Er 29 mPg).mem ZM (λ_=>false) XR XS (λ_=>mlO [none]):=by
 rintro ⟨n,⟨⟨L,pa⟩,pfs⟩⟩ w M I lab fz xs ⟨hc1,hc2⟩ hA hl hx
 dsimp only at hc1 hc2
 refine Bz Tryz.func27 rfl [.vec zPg [pgR (⟨⟨L,pa⟩,pfs⟩:Pg)]] w M I lab fz false [none] (XS (n,(⟨⟨L,pa⟩,pfs⟩:Pg))) [QQ] [(9,[.fzm 9])] ((Er 29 mPg).args (n,(⟨⟨L,pa⟩,pfs⟩:Pg))) (XR (n,(⟨⟨L,pa⟩,pfs⟩:Pg))) xs hA hl hx ?_ (jN rfl) (Nat.le_refl _) rfl QX ?_
 .exact JZ
 clear hx hl hA xs
 subst hc1
 simp only[Tryz.f27]
 have hL:(⟨⟨L,pa⟩,pfs⟩:Pg).g.c=L:=rfl
 have hlen:(⟨⟨L,pa⟩,pfs⟩:Pg).g.c.length=L.length:=rfl
 simp only[seval,go_sem,xt,↓A0,QQ,OD,EV,EW,isSome_some,isSome_none,hL]
 refine AC (Y:=Nat×List (List UInt8×Int)) (λz=>z.1<=L.length/\Gc (L.drop z.1) z.1 z.2=fI L)
  (λz=>⟨[(1,true,.one (.fn 29 [.p 0 0 0])),(5,true,.one (.s 9)),(10,true,.one (.v (.int .i64 (L.length:Int)))),(11,true,.one (.v (.int .i64 (z.1:Int))))],[(0,.vec 0 zPg [pgR (⟨⟨L,pa⟩,pfs⟩:Pg)]),(9,.mp false (z.2.map λp=>(p.1,[C.v (.int .i64 p.2)])))]⟩)
  (λz=>L.length-z.1) (0,[]) ⟨Nat.zero_le _,rfl⟩ ?_ ?_
 .exact v8
 rintro ⟨i,es⟩ ⟨hi,hJ⟩
 dsimp only at hi hJ
 refine AP [QQ] [(9,[.fzm 9])] _ _ _ ?_
 have w1:IntKind.i64.wrap ((i:Int)+1)=((i+1:Nat):Int):=by rw[wrap_i64 (by omega) (by omega)];rfl
 cases hx:L[i]? with
 |none=>
  have h2:=List.getElem?_eq_none_iff.1 hx
  have h1:=Ai h2
  rw[drop_eq_nil_of_le h2]at hJ
  have hJ':es=fI L:=hJ
  subst hJ'
  simp only[seval,go_sem,xt,↓A0,QQ,OD,EV,EW,isSome_some,isSome_none,h1,hL,Nh]
  repeat refine AX ?_
  refine A1 [] ?_;simp only[seval,go_sem,bne,XR,XS,A3,xt,↓A0,hL]
 |some s=>
 have hlt:=(List.getElem?_eq_some_iff.1 hx).1
 have h1:=Ah hlt
 have hs:L.getD i []=s:=by simp[List.getD,hx]
 have hb:(0:Int)<=(i:Int)/\(i:Int)<((⟨⟨L,pa⟩,pfs⟩:Pg).g.c.length:Int):=by rw[hlen];omega
 rw[BF hx,Vv]at hJ
 cases hm:AH es s with
 |some j=>
  rw[hm]at hJ
  have hJ2:Gc (L.drop (i+1)) (i+1) es=fI L:=hJ
  simp only[seval,go_sem,xt,↓A0,QQ,OD,EV,EW,isSome_some,isSome_none,h1,hL,hs,hm,w1]
  exact SY
 |none=>
 rw[hm]at hJ
 have hJ2:Gc (L.drop (i+1)) (i+1) (B5 es s (i:Int))=fI L:=hJ
 simp only[seval,go_sem,xt,↓A0,QQ,OD,EV,EW,isSome_some,isSome_none,h1,hL,hs,hm,w1]
 exact SR
abbrev ZN(q:Int×Pg):Prop:=q.1=((q.2.g.a.map Gy.s).length:Int)/\(q.2.g.a.map Gy.s).length<=1000000
abbrev XT(q:Int×Pg):SV:=.one (.d (.mp (mpI (fI (q.2.g.a.map Gy.s)))))
abbrev M_C3(q:Int×Pg):List (Option ML):=[some (.vec zPg [pgR q.2])]
theorem jm:Dj Tryz.prog 27 (Er 30 mPg).args (Er 30 mPg).mem ZN (λ_=>false) XT M_C3 (λ_=>mlO [none]):=by
 rintro ⟨n,pp⟩ w M I lab fz xs ⟨hc1,hc2⟩ hA hl hx
 dsimp only at hc1 hc2
 refine Bz Tryz.func27 rfl [.vec zPg [pgR pp]] w M I lab fz false [none] (M_C3 (n,pp)) [QS] [(9,[.fzm 9])] ((Er 30 mPg).args (n,pp)) (XT (n,pp)) xs hA hl hx ?_ (jN rfl) (Nat.le_refl _) rfl QX ?_
 .exact JZ
 clear hx hl hA xs
 subst hc1
 simp only[Tryz.f27]
 obtain⟨L,hL⟩:∃L,pp.g.a.map Gy.s=L:=⟨_,rfl⟩
 have hlen:pp.g.a.length=L.length:=by rw[<- hL];simp
 rw[hL]at hc2
 simp only[seval,go_sem,xt,↓A0,QS,OE,EV,EW,isSome_some,isSome_none,hL]
 refine AC (Y:=Nat×List (List UInt8×Int)) (λz=>z.1<=L.length/\Gc (L.drop z.1) z.1 z.2=fI L)
  (λz=>⟨[(1,true,.one (.fn 30 [.p 0 0 0])),(5,true,.one (.s 9)),(10,true,.one (.v (.int .i64 (L.length:Int)))),(11,true,.one (.v (.int .i64 (z.1:Int))))],[(0,.vec 0 zPg [pgR pp]),(9,.mp false (z.2.map λp=>(p.1,[C.v (.int .i64 p.2)])))]⟩)
  (λz=>L.length-z.1) (0,[]) ⟨Nat.zero_le _,rfl⟩ ?_ ?_
 .exact v8
 rintro ⟨i,es⟩ ⟨hi,hJ⟩
 dsimp only at hi hJ
 refine AP [QS] [(9,[.fzm 9])] _ _ _ ?_
 have w1:IntKind.i64.wrap ((i:Int)+1)=((i+1:Nat):Int):=by rw[wrap_i64 (by omega) (by omega)];rfl
 cases hx:L[i]? with
 |none=>
  have h2:=List.getElem?_eq_none_iff.1 hx
  have h1:=Ai h2
  rw[drop_eq_nil_of_le h2]at hJ
  have hJ':es=fI L:=hJ
  subst hJ'
  simp only[seval,go_sem,xt,↓A0,QS,OE,EV,EW,isSome_some,isSome_none,h1,hL,Nh]
  repeat refine AX ?_
  refine A1 [] ?_;simp only[seval,go_sem,bne,XT,M_C3,A3,xt,↓A0,hL]
 |some s=>
 have hlt:=(List.getElem?_eq_some_iff.1 hx).1
 have h1:=Ah hlt
 have hs:L.getD i []=s:=by simp[List.getD,hx]
 have hb:(0:Int)<=(i:Int)/\(i:Int)<(pp.g.a.length:Int):=by rw[hlen];omega
 rw[BF hx,Vv]at hJ
 cases hm:AH es s with
 |some j=>
  rw[hm]at hJ
  have hJ2:Gc (L.drop (i+1)) (i+1) es=fI L:=hJ
  simp only[seval,go_sem,xt,↓A0,QS,OE,EV,EW,isSome_some,isSome_none,h1,hL,hs,hm,w1]
  exact SY
 |none=>
 rw[hm]at hJ
 have hJ2:Gc (L.drop (i+1)) (i+1) (B5 es s (i:Int))=fI L:=hJ
 simp only[seval,go_sem,xt,↓A0,QS,OE,EV,EW,isSome_some,isSome_none,h1,hL,hs,hm,w1]
 exact SR
abbrev fh(q:Int×Sta):Prop:=q.1=((q.2.cs.map Nb.s).length:Int)/\(q.2.cs.map Nb.s).length<=1000000
abbrev XU(q:Int×Sta):SV:=.one (.d (.mp (mpI (fI (q.2.cs.map Nb.s)))))
abbrev M_S1(q:Int×Sta):List (Option ML):=[some (.vec zSta [stR q.2])]
theorem jn:Dj Tryz.prog 27 (Er 46 mSt).args (Er 46 mSt).mem fh (λ_=>false) XU M_S1 (λ_=>mlO [none]):=by
 rintro ⟨n,pp⟩ w M I lab fz xs ⟨hc1,hc2⟩ hA hl hx
 dsimp only at hc1 hc2
 refine Bz Tryz.func27 rfl [.vec zSta [stR pp]] w M I lab fz false [none] (M_S1 (n,pp)) [QU] [(9,[.fzm 9])] ((Er 46 mSt).args (n,pp)) (XU (n,pp)) xs hA hl hx ?_ (jN rfl) (Nat.le_refl _) rfl QX ?_
 .exact JZ
 clear hx hl hA xs
 subst hc1
 simp only[Tryz.f27]
 obtain⟨L,hL⟩:∃L,pp.cs.map Nb.s=L:=⟨_,rfl⟩
 have hlen:pp.cs.length=L.length:=by rw[<- hL];simp
 rw[hL]at hc2
 simp only[seval,go_sem,xt,↓A0,QU,OG,EV,EW,isSome_some,isSome_none,hL]
 refine AC (Y:=Nat×List (List UInt8×Int)) (λz=>z.1<=L.length/\Gc (L.drop z.1) z.1 z.2=fI L)
  (λz=>⟨[(1,true,.one (.fn 46 [.p 0 0 0])),(5,true,.one (.s 9)),(10,true,.one (.v (.int .i64 (L.length:Int)))),(11,true,.one (.v (.int .i64 (z.1:Int))))],[(0,.vec 0 zSta [stR pp]),(9,.mp false (z.2.map λp=>(p.1,[C.v (.int .i64 p.2)])))]⟩)
  (λz=>L.length-z.1) (0,[]) ⟨Nat.zero_le _,rfl⟩ ?_ ?_
 .exact v8
 rintro ⟨i,es⟩ ⟨hi,hJ⟩
 dsimp only at hi hJ
 refine AP [QU] [(9,[.fzm 9])] _ _ _ ?_
 have w1:IntKind.i64.wrap ((i:Int)+1)=((i+1:Nat):Int):=by rw[wrap_i64 (by omega) (by omega)];rfl
 cases hx:L[i]? with
 |none=>
  have h2:=List.getElem?_eq_none_iff.1 hx
  have h1:=Ai h2
  rw[drop_eq_nil_of_le h2]at hJ
  have hJ':es=fI L:=hJ
  subst hJ'
  simp only[seval,go_sem,xt,↓A0,QU,OG,EV,EW,isSome_some,isSome_none,h1,hL,Nh]
  repeat refine AX ?_
  refine A1 [] ?_;simp only[seval,go_sem,bne,XU,M_S1,A3,xt,↓A0,hL]
 |some s=>
 have hlt:=(List.getElem?_eq_some_iff.1 hx).1
 have h1:=Ah hlt
 have hs:L.getD i []=s:=by simp[List.getD,hx]
 have hb:(0:Int)<=(i:Int)/\(i:Int)<(pp.cs.length:Int):=by rw[hlen];omega
 rw[BF hx,Vv]at hJ
 cases hm:AH es s with
 |some j=>
  rw[hm]at hJ
  have hJ2:Gc (L.drop (i+1)) (i+1) es=fI L:=hJ
  simp only[seval,go_sem,xt,↓A0,QU,OG,EV,EW,isSome_some,isSome_none,h1,hL,hs,hm,w1]
  exact SY
 |none=>
 rw[hm]at hJ
 have hJ2:Gc (L.drop (i+1)) (i+1) (B5 es s (i:Int))=fI L:=hJ
 simp only[seval,go_sem,xt,↓A0,QU,OG,EV,EW,isSome_some,isSome_none,h1,hL,hs,hm,w1]
 exact SR
abbrev fj(q:Int×Sta):Prop:=q.1=((q.2.ar.map Na.s).length:Int)/\(q.2.ar.map Na.s).length<=1000000
abbrev XV(q:Int×Sta):SV:=.one (.d (.mp (mpI (fI (q.2.ar.map Na.s)))))
abbrev M_S2(q:Int×Sta):List (Option ML):=[some (.vec zSta [stR q.2])]
theorem jo:Dj Tryz.prog 27 (Er 47 mSt).args (Er 47 mSt).mem fj (λ_=>false) XV M_S2 (λ_=>mlO [none]):=by
 rintro ⟨n,pp⟩ w M I lab fz xs ⟨hc1,hc2⟩ hA hl hx
 dsimp only at hc1 hc2
 refine Bz Tryz.func27 rfl [.vec zSta [stR pp]] w M I lab fz false [none] (M_S2 (n,pp)) [QW] [(9,[.fzm 9])] ((Er 47 mSt).args (n,pp)) (XV (n,pp)) xs hA hl hx ?_ (jN rfl) (Nat.le_refl _) rfl QX ?_
 .exact JZ
 clear hx hl hA xs
 subst hc1
 simp only[Tryz.f27]
 obtain⟨L,hL⟩:∃L,pp.ar.map Na.s=L:=⟨_,rfl⟩
 have hlen:pp.ar.length=L.length:=by rw[<- hL];simp
 rw[hL]at hc2
 simp only[seval,go_sem,xt,↓A0,QW,OH,EV,EW,isSome_some,isSome_none,hL]
 refine AC (Y:=Nat×List (List UInt8×Int)) (λz=>z.1<=L.length/\Gc (L.drop z.1) z.1 z.2=fI L)
  (λz=>⟨[(1,true,.one (.fn 47 [.p 0 0 0])),(5,true,.one (.s 9)),(10,true,.one (.v (.int .i64 (L.length:Int)))),(11,true,.one (.v (.int .i64 (z.1:Int))))],[(0,.vec 0 zSta [stR pp]),(9,.mp false (z.2.map λp=>(p.1,[C.v (.int .i64 p.2)])))]⟩)
  (λz=>L.length-z.1) (0,[]) ⟨Nat.zero_le _,rfl⟩ ?_ ?_
 .exact v8
 rintro ⟨i,es⟩ ⟨hi,hJ⟩
 dsimp only at hi hJ
 refine AP [QW] [(9,[.fzm 9])] _ _ _ ?_
 have w1:IntKind.i64.wrap ((i:Int)+1)=((i+1:Nat):Int):=by rw[wrap_i64 (by omega) (by omega)];rfl
 cases hx:L[i]? with
 |none=>
  have h2:=List.getElem?_eq_none_iff.1 hx
  have h1:=Ai h2
  rw[drop_eq_nil_of_le h2]at hJ
  have hJ':es=fI L:=hJ
  subst hJ'
  simp only[seval,go_sem,xt,↓A0,QW,OH,EV,EW,isSome_some,isSome_none,h1,hL,Nh]
  repeat refine AX ?_
  refine A1 [] ?_;simp only[seval,go_sem,bne,XV,M_S2,A3,xt,↓A0,hL]
 |some s=>
 have hlt:=(List.getElem?_eq_some_iff.1 hx).1
 have h1:=Ah hlt
 have hs:L.getD i []=s:=by simp[List.getD,hx]
 have hb:(0:Int)<=(i:Int)/\(i:Int)<(pp.ar.length:Int):=by rw[hlen];omega
 rw[BF hx,Vv]at hJ
 cases hm:AH es s with
 |some j=>
  rw[hm]at hJ
  have hJ2:Gc (L.drop (i+1)) (i+1) es=fI L:=hJ
  simp only[seval,go_sem,xt,↓A0,QW,OH,EV,EW,isSome_some,isSome_none,h1,hL,hs,hm,w1]
  exact SY
 |none=>
 rw[hm]at hJ
 have hJ2:Gc (L.drop (i+1)) (i+1) (B5 es s (i:Int))=fI L:=hJ
 simp only[seval,go_sem,xt,↓A0,QW,OH,EV,EW,isSome_some,isSome_none,h1,hL,hs,hm,w1]
 exact SR
end Go.Proofs.YtapedeoheilnnaaGreat
