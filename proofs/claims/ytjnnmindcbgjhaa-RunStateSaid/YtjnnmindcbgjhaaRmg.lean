/- first, with each of its closures, walked. No conditions but those in each statement. -/
import Derived.Test.YtjnnmindcbgjhaaRmf
set_option linter.unusedVariables false
set_option linter.unusedSimpArgs false
set_option maxRecDepth 20000
set_option maxHeartbeats 16000000
open List (append_nil mem_singleton)
namespace Go.Proofs.Ytjnnmindcbgjhaa
open Go Go.Sy Go.RowKit
theorem U3 {s:List UInt8} {r:List (List UInt8)} {i:Nat} {es:List (List UInt8×Int)}:FZ (s::r) i es=FZ r (i+1) (if (Ap es s).isSome=true then es else C2 es s (i:Int)):=rfl
theorem Mr:(List.map (fun p:List UInt8×Int=>(p.1,[C.v (.int .i64 p.2)])) [])=[]:=rfl
theorem PV:∀q,some q∈([none]:List (Option MV))→∀r∈q.2,∀c∈r,c.names=[]:=by intro q hq;simp at hq
theorem JZ (es:List (List UInt8×Int)):List.flatMap (fun p=>List.flatMap C.names p.2) (es.map fun p=>(p.1,[C.v (.int .i64 p.2)]))=[]:=List.flatMap_eq_nil_iff.2 fun p hp=>by
 obtain⟨a,_,rfl⟩:=List.mem_map.1 hp
 rfl
theorem Mt:∀es:List (List UInt8×Int),QY (es.map fun p=>(p.1,[C.v (.int .i64 p.2)]))=some (mpI es)
 |[]=>rfl
 |(k,i)::r=>by
  have:=Mt r
  simp only[List.map_cons,QY,this];rfl
abbrev Wk (q:Int×Pg):Prop:=q.1=((q.2.fs.map Fn.name).length:Int)∧(q.2.fs.map Fn.name).length≤1000000
abbrev V9 (q:Int×Pg):SV:=.one (.d (.mp (mpI (fI (q.2.fs.map Fn.name)))))
abbrev M_C1 (q:Int×Pg):List (Option ML):=[some (.vec zPg [pgR q.2])]
attribute [local go_sem] Fa.mem Fa.memO Fa.pan ML.ch ML.ren Sm.ar Sm.cd Sm.e Sm.el Sm.f Sm.k Sm.no Sm.th Sm.x Sm.y Kb U1 U2 GG GF GH Dm BJ BP BQ BH BN BO Kn Km Cy Cx chL IW EM EL GM fcN J2 U0 Wj frC IX GE lmH lmO Tw QB Tv S2 Ty Tz IY HV EA DR DS nmX AB AA pgR Ei Dt Du Fz Fy EP F9 rnC HN AK DA Ds DQ stR CS Ea vrQ IZ J3
theorem dy:E9 Try.prog 31 (Dc 32 mPg).args (Dc 32 mPg).mem Wk (fun _=>false) V9 M_C1 (fun _=>mlO [none]):=by
 rintro ⟨n,pp⟩ w M I lab fz xs ⟨hc1,hc2⟩ hA hl hx
 dsimp only at hc1 hc2
 refine Ce Try.func31 rfl [.vec zPg [pgR pp]] w M I lab fz false [none] (M_C1 (n,pp)) [PQ] [(9,[.fzm 9])] ((Dc 32 mPg).args (n,pp)) (V9 (n,pp)) xs hA hl hx ?_ (jN rfl) (Nat.le_refl _) rfl PV ?_
 ·intro v hv k hk
  simp only[Kb,List.mem_cons,List.not_mem_nil,or_false]at hv
  rcases hv with rfl|rfl
  ·cases hk
  ·simp only[SV.names,C.names,List.flatMap_cons,List.flatMap_nil,append_nil,capN,mem_singleton]at hk
   subst hk;show 0<1;decide
 clear hx hl hA xs
 subst hc1
 simp only[Try.f31]
 obtain⟨L,hL⟩:∃L,pp.fs.map Fn.name=L:=⟨_,rfl⟩
 have hlen:pp.fs.length=L.length:=by rw[← hL];simp
 rw[hL]at hc2
 simp only[↓eB,seval,go_sem,xt,↓A1,PQ,Kc,DG,DH,Option.isSome_some,Option.isSome_none,hL]
 refine AU (Y:=Nat×List (List UInt8×Int)) (fun z=>z.1≤L.length∧FZ (L.drop z.1) z.1 z.2=fI L)
  (fun z=>⟨[(1,true,.one (.fn 32 [.p 0 0 0])),(5,true,.one (.s 9)),(10,true,.one (.v (.int .i64 (L.length:Int)))),(11,true,.one (.v (.int .i64 (z.1:Int))))],[(0,.vec 0 zPg [pgR pp]),(9,.mp false (z.2.map fun p=>(p.1,[C.v (.int .i64 p.2)])))]⟩)
  (fun z=>L.length-z.1) (0,[]) ⟨Nat.zero_le _,rfl⟩ ?_ ?_
 ·refine A2 [] ?_;simp only[↓eB,seval,go_sem,xt,↓A1,Mr]
 ·rintro ⟨i,es⟩ ⟨hi,hJ⟩
  dsimp only at hi hJ
  refine Ak [PQ] [(9,[.fzm 9])] _ _ _ ?_
  have w1:IntKind.i64.wrap ((i:Int)+1)=((i+1:Nat):Int):=by rw[wrap_i64 (by omega) (by omega)];rfl
  cases hx:L[i]? with
  |none=>
   have h2:=List.getElem?_eq_none_iff.1 hx
   have h1:=BA h2
   rw[List.drop_eq_nil_of_le h2]at hJ
   have hJ':es=fI L:=hJ
   subst hJ'
   simp only[↓eB,seval,go_sem,xt,↓A1,PQ,Kc,DG,DH,Option.isSome_some,Option.isSome_none,h1,hL,Mt]
   try simp only[A3,A4]
   repeat' first|exact ck|with_reducible apply And.intro|intro _
   all_goals first|exact trivial|(rename_i h;first|exact oI h|exact nah h)|(rename_i _ h _ g;exact sL h g)|decide|omega|(refine A0 [] ?_;simp only[↓eB,seval,go_sem,bne,V9,M_C1,A6,xt,↓A1,hL])
  |some s=>
   have hlt:=(List.getElem?_eq_some_iff.1 hx).1
   have h1:=B9 hlt
   have hs:L.getD i []=s:=by simp[List.getD,hx]
   have hb:(0:Int)≤(i:Int)∧(i:Int)<(pp.fs.length:Int):=by rw[hlen];omega
   rw[Bp hx,U3]at hJ
   cases hm:Ap es s with
   |some j=>
    rw[hm]at hJ
    have hJ2:FZ (L.drop (i+1)) (i+1) es=fI L:=hJ
    simp only[↓eB,seval,go_sem,xt,↓A1,PQ,Kc,DG,DH,Option.isSome_some,Option.isSome_none,h1,hL,hs,hm,w1]
    try simp only[A3,A4]
    repeat' first|exact ck|with_reducible apply And.intro|intro _
    all_goals try first|exact hb|exact hb.1|exact hb.2|(rename_i h;first|exact oI h|exact nah h)|(rename_i _ h _ g;exact sL h g)|decide|omega
    refine⟨(i+1,es),⟨hlt,hJ2⟩,by dsimp only;omega,A2 [] ?_⟩
    simp only[↓eB,seval,go_sem,xt,↓A1,JZ]
   |none=>
    rw[hm]at hJ
    have hJ2:FZ (L.drop (i+1)) (i+1) (C2 es s (i:Int))=fI L:=hJ
    simp only[↓eB,seval,go_sem,xt,↓A1,PQ,Kc,DG,DH,Option.isSome_some,Option.isSome_none,h1,hL,hs,hm,w1]
    try simp only[A3,A4]
    repeat' first|exact ck|with_reducible apply And.intro|intro _
    all_goals try first|exact hb|exact hb.1|exact hb.2|(rename_i h;first|exact oI h|exact nah h)|(rename_i _ h _ g;exact sL h g)|decide|omega
    refine⟨(i+1,C2 es s (i:Int)),⟨hlt,hJ2⟩,by dsimp only;omega,A2 [] ?_⟩
    simp only[↓eB,seval,go_sem,xt,↓A1,JZ]
abbrev Wl (q:Int×Pg):Prop:=q.1=((q.2.g.c).length:Int)∧(q.2.g.c).length≤1000000
abbrev VA (q:Int×Pg):SV:=.one (.d (.mp (mpI (fI (q.2.g.c)))))
abbrev VB (q:Int×Pg):List (Option ML):=[some (.vec zPg [pgR q.2])]
theorem dz:E9 Try.prog 31 (Dc 33 mPg).args (Dc 33 mPg).mem Wl (fun _=>false) VA VB (fun _=>mlO [none]):=by
 rintro ⟨n,⟨⟨L,pa⟩,pfs⟩⟩ w M I lab fz xs ⟨hc1,hc2⟩ hA hl hx
 dsimp only at hc1 hc2
 refine Ce Try.func31 rfl [.vec zPg [pgR (⟨⟨L,pa⟩,pfs⟩:Pg)]] w M I lab fz false [none] (VB (n,(⟨⟨L,pa⟩,pfs⟩:Pg))) [PR] [(9,[.fzm 9])] ((Dc 33 mPg).args (n,(⟨⟨L,pa⟩,pfs⟩:Pg))) (VA (n,(⟨⟨L,pa⟩,pfs⟩:Pg))) xs hA hl hx ?_ (jN rfl) (Nat.le_refl _) rfl PV ?_
 ·intro v hv k hk
  simp only[Kb,List.mem_cons,List.not_mem_nil,or_false]at hv
  rcases hv with rfl|rfl
  ·cases hk
  ·simp only[SV.names,C.names,List.flatMap_cons,List.flatMap_nil,append_nil,capN,mem_singleton]at hk
   subst hk;show 0<1;decide
 clear hx hl hA xs
 subst hc1
 simp only[Try.f31]
 have hL:(⟨⟨L,pa⟩,pfs⟩:Pg).g.c=L:=rfl
 have hlen:(⟨⟨L,pa⟩,pfs⟩:Pg).g.c.length=L.length:=rfl
 simp only[↓eB,seval,go_sem,xt,↓A1,PR,Ke,DG,DH,Option.isSome_some,Option.isSome_none,hL]
 refine AU (Y:=Nat×List (List UInt8×Int)) (fun z=>z.1≤L.length∧FZ (L.drop z.1) z.1 z.2=fI L)
  (fun z=>⟨[(1,true,.one (.fn 33 [.p 0 0 0])),(5,true,.one (.s 9)),(10,true,.one (.v (.int .i64 (L.length:Int)))),(11,true,.one (.v (.int .i64 (z.1:Int))))],[(0,.vec 0 zPg [pgR (⟨⟨L,pa⟩,pfs⟩:Pg)]),(9,.mp false (z.2.map fun p=>(p.1,[C.v (.int .i64 p.2)])))]⟩)
  (fun z=>L.length-z.1) (0,[]) ⟨Nat.zero_le _,rfl⟩ ?_ ?_
 ·refine A2 [] ?_;simp only[↓eB,seval,go_sem,xt,↓A1,Mr]
 ·rintro ⟨i,es⟩ ⟨hi,hJ⟩
  dsimp only at hi hJ
  refine Ak [PR] [(9,[.fzm 9])] _ _ _ ?_
  have w1:IntKind.i64.wrap ((i:Int)+1)=((i+1:Nat):Int):=by rw[wrap_i64 (by omega) (by omega)];rfl
  cases hx:L[i]? with
  |none=>
   have h2:=List.getElem?_eq_none_iff.1 hx
   have h1:=BA h2
   rw[List.drop_eq_nil_of_le h2]at hJ
   have hJ':es=fI L:=hJ
   subst hJ'
   simp only[↓eB,seval,go_sem,xt,↓A1,PR,Ke,DG,DH,Option.isSome_some,Option.isSome_none,h1,hL,Mt]
   try simp only[A3,A4]
   repeat' first|exact ck|with_reducible apply And.intro|intro _
   all_goals first|exact trivial|(rename_i h;first|exact oI h|exact nah h)|(rename_i _ h _ g;exact sL h g)|decide|omega|(refine A0 [] ?_;simp only[↓eB,seval,go_sem,bne,VA,VB,A6,xt,↓A1,hL])
  |some s=>
   have hlt:=(List.getElem?_eq_some_iff.1 hx).1
   have h1:=B9 hlt
   have hs:L.getD i []=s:=by simp[List.getD,hx]
   have hb:(0:Int)≤(i:Int)∧(i:Int)<((⟨⟨L,pa⟩,pfs⟩:Pg).g.c.length:Int):=by rw[hlen];omega
   rw[Bp hx,U3]at hJ
   cases hm:Ap es s with
   |some j=>
    rw[hm]at hJ
    have hJ2:FZ (L.drop (i+1)) (i+1) es=fI L:=hJ
    simp only[↓eB,seval,go_sem,xt,↓A1,PR,Ke,DG,DH,Option.isSome_some,Option.isSome_none,h1,hL,hs,hm,w1]
    try simp only[A3,A4]
    repeat' first|exact ck|with_reducible apply And.intro|intro _
    all_goals try first|exact hb|exact hb.1|exact hb.2|(rename_i h;first|exact oI h|exact nah h)|(rename_i _ h _ g;exact sL h g)|decide|omega
    refine⟨(i+1,es),⟨hlt,hJ2⟩,by dsimp only;omega,A2 [] ?_⟩
    simp only[↓eB,seval,go_sem,xt,↓A1,JZ]
   |none=>
    rw[hm]at hJ
    have hJ2:FZ (L.drop (i+1)) (i+1) (C2 es s (i:Int))=fI L:=hJ
    simp only[↓eB,seval,go_sem,xt,↓A1,PR,Ke,DG,DH,Option.isSome_some,Option.isSome_none,h1,hL,hs,hm,w1]
    try simp only[A3,A4]
    repeat' first|exact ck|with_reducible apply And.intro|intro _
    all_goals try first|exact hb|exact hb.1|exact hb.2|(rename_i h;first|exact oI h|exact nah h)|(rename_i _ h _ g;exact sL h g)|decide|omega
    refine⟨(i+1,C2 es s (i:Int)),⟨hlt,hJ2⟩,by dsimp only;omega,A2 [] ?_⟩
    simp only[↓eB,seval,go_sem,xt,↓A1,JZ]
abbrev Wm (q:Int×Pg):Prop:=q.1=((q.2.g.a.map Gy.s).length:Int)∧(q.2.g.a.map Gy.s).length≤1000000
abbrev VC (q:Int×Pg):SV:=.one (.d (.mp (mpI (fI (q.2.g.a.map Gy.s)))))
abbrev M_C3 (q:Int×Pg):List (Option ML):=[some (.vec zPg [pgR q.2])]
theorem eA:E9 Try.prog 31 (Dc 34 mPg).args (Dc 34 mPg).mem Wm (fun _=>false) VC M_C3 (fun _=>mlO [none]):=by
 rintro ⟨n,pp⟩ w M I lab fz xs ⟨hc1,hc2⟩ hA hl hx
 dsimp only at hc1 hc2
 refine Ce Try.func31 rfl [.vec zPg [pgR pp]] w M I lab fz false [none] (M_C3 (n,pp)) [PS] [(9,[.fzm 9])] ((Dc 34 mPg).args (n,pp)) (VC (n,pp)) xs hA hl hx ?_ (jN rfl) (Nat.le_refl _) rfl PV ?_
 ·intro v hv k hk
  simp only[Kb,List.mem_cons,List.not_mem_nil,or_false]at hv
  rcases hv with rfl|rfl
  ·cases hk
  ·simp only[SV.names,C.names,List.flatMap_cons,List.flatMap_nil,append_nil,capN,mem_singleton]at hk
   subst hk;show 0<1;decide
 clear hx hl hA xs
 subst hc1
 simp only[Try.f31]
 obtain⟨L,hL⟩:∃L,pp.g.a.map Gy.s=L:=⟨_,rfl⟩
 have hlen:pp.g.a.length=L.length:=by rw[← hL];simp
 rw[hL]at hc2
 simp only[↓eB,seval,go_sem,xt,↓A1,PS,Kf,DG,DH,Option.isSome_some,Option.isSome_none,hL]
 refine AU (Y:=Nat×List (List UInt8×Int)) (fun z=>z.1≤L.length∧FZ (L.drop z.1) z.1 z.2=fI L)
  (fun z=>⟨[(1,true,.one (.fn 34 [.p 0 0 0])),(5,true,.one (.s 9)),(10,true,.one (.v (.int .i64 (L.length:Int)))),(11,true,.one (.v (.int .i64 (z.1:Int))))],[(0,.vec 0 zPg [pgR pp]),(9,.mp false (z.2.map fun p=>(p.1,[C.v (.int .i64 p.2)])))]⟩)
  (fun z=>L.length-z.1) (0,[]) ⟨Nat.zero_le _,rfl⟩ ?_ ?_
 ·refine A2 [] ?_;simp only[↓eB,seval,go_sem,xt,↓A1,Mr]
 ·rintro ⟨i,es⟩ ⟨hi,hJ⟩
  dsimp only at hi hJ
  refine Ak [PS] [(9,[.fzm 9])] _ _ _ ?_
  have w1:IntKind.i64.wrap ((i:Int)+1)=((i+1:Nat):Int):=by rw[wrap_i64 (by omega) (by omega)];rfl
  cases hx:L[i]? with
  |none=>
   have h2:=List.getElem?_eq_none_iff.1 hx
   have h1:=BA h2
   rw[List.drop_eq_nil_of_le h2]at hJ
   have hJ':es=fI L:=hJ
   subst hJ'
   simp only[↓eB,seval,go_sem,xt,↓A1,PS,Kf,DG,DH,Option.isSome_some,Option.isSome_none,h1,hL,Mt]
   try simp only[A3,A4]
   repeat' first|exact ck|with_reducible apply And.intro|intro _
   all_goals first|exact trivial|(rename_i h;first|exact oI h|exact nah h)|(rename_i _ h _ g;exact sL h g)|decide|omega|(refine A0 [] ?_;simp only[↓eB,seval,go_sem,bne,VC,M_C3,A6,xt,↓A1,hL])
  |some s=>
   have hlt:=(List.getElem?_eq_some_iff.1 hx).1
   have h1:=B9 hlt
   have hs:L.getD i []=s:=by simp[List.getD,hx]
   have hb:(0:Int)≤(i:Int)∧(i:Int)<(pp.g.a.length:Int):=by rw[hlen];omega
   rw[Bp hx,U3]at hJ
   cases hm:Ap es s with
   |some j=>
    rw[hm]at hJ
    have hJ2:FZ (L.drop (i+1)) (i+1) es=fI L:=hJ
    simp only[↓eB,seval,go_sem,xt,↓A1,PS,Kf,DG,DH,Option.isSome_some,Option.isSome_none,h1,hL,hs,hm,w1]
    try simp only[A3,A4]
    repeat' first|exact ck|with_reducible apply And.intro|intro _
    all_goals try first|exact hb|exact hb.1|exact hb.2|(rename_i h;first|exact oI h|exact nah h)|(rename_i _ h _ g;exact sL h g)|decide|omega
    refine⟨(i+1,es),⟨hlt,hJ2⟩,by dsimp only;omega,A2 [] ?_⟩
    simp only[↓eB,seval,go_sem,xt,↓A1,JZ]
   |none=>
    rw[hm]at hJ
    have hJ2:FZ (L.drop (i+1)) (i+1) (C2 es s (i:Int))=fI L:=hJ
    simp only[↓eB,seval,go_sem,xt,↓A1,PS,Kf,DG,DH,Option.isSome_some,Option.isSome_none,h1,hL,hs,hm,w1]
    try simp only[A3,A4]
    repeat' first|exact ck|with_reducible apply And.intro|intro _
    all_goals try first|exact hb|exact hb.1|exact hb.2|(rename_i h;first|exact oI h|exact nah h)|(rename_i _ h _ g;exact sL h g)|decide|omega
    refine⟨(i+1,C2 es s (i:Int)),⟨hlt,hJ2⟩,by dsimp only;omega,A2 [] ?_⟩
    simp only[↓eB,seval,go_sem,xt,↓A1,JZ]
abbrev bC (q:Int×Sta):Prop:=q.1=((q.2.cs.map Nb.s).length:Int)∧(q.2.cs.map Nb.s).length≤1000000
abbrev VD (q:Int×Sta):SV:=.one (.d (.mp (mpI (fI (q.2.cs.map Nb.s)))))
abbrev M_S1 (q:Int×Sta):List (Option ML):=[some (.vec zSta [stR q.2])]
theorem eC:E9 Try.prog 31 (Dc 46 mSt).args (Dc 46 mSt).mem bC (fun _=>false) VD M_S1 (fun _=>mlO [none]):=by
 rintro ⟨n,pp⟩ w M I lab fz xs ⟨hc1,hc2⟩ hA hl hx
 dsimp only at hc1 hc2
 refine Ce Try.func31 rfl [.vec zSta [stR pp]] w M I lab fz false [none] (M_S1 (n,pp)) [PT] [(9,[.fzm 9])] ((Dc 46 mSt).args (n,pp)) (VD (n,pp)) xs hA hl hx ?_ (jN rfl) (Nat.le_refl _) rfl PV ?_
 ·intro v hv k hk
  simp only[Kb,List.mem_cons,List.not_mem_nil,or_false]at hv
  rcases hv with rfl|rfl
  ·cases hk
  ·simp only[SV.names,C.names,List.flatMap_cons,List.flatMap_nil,append_nil,capN,mem_singleton]at hk
   subst hk;show 0<1;decide
 clear hx hl hA xs
 subst hc1
 simp only[Try.f31]
 obtain⟨L,hL⟩:∃L,pp.cs.map Nb.s=L:=⟨_,rfl⟩
 have hlen:pp.cs.length=L.length:=by rw[← hL];simp
 rw[hL]at hc2
 simp only[↓eB,seval,go_sem,xt,↓A1,PT,Kg,DG,DH,Option.isSome_some,Option.isSome_none,hL]
 refine AU (Y:=Nat×List (List UInt8×Int)) (fun z=>z.1≤L.length∧FZ (L.drop z.1) z.1 z.2=fI L)
  (fun z=>⟨[(1,true,.one (.fn 46 [.p 0 0 0])),(5,true,.one (.s 9)),(10,true,.one (.v (.int .i64 (L.length:Int)))),(11,true,.one (.v (.int .i64 (z.1:Int))))],[(0,.vec 0 zSta [stR pp]),(9,.mp false (z.2.map fun p=>(p.1,[C.v (.int .i64 p.2)])))]⟩)
  (fun z=>L.length-z.1) (0,[]) ⟨Nat.zero_le _,rfl⟩ ?_ ?_
 ·refine A2 [] ?_;simp only[↓eB,seval,go_sem,xt,↓A1,Mr]
 ·rintro ⟨i,es⟩ ⟨hi,hJ⟩
  dsimp only at hi hJ
  refine Ak [PT] [(9,[.fzm 9])] _ _ _ ?_
  have w1:IntKind.i64.wrap ((i:Int)+1)=((i+1:Nat):Int):=by rw[wrap_i64 (by omega) (by omega)];rfl
  cases hx:L[i]? with
  |none=>
   have h2:=List.getElem?_eq_none_iff.1 hx
   have h1:=BA h2
   rw[List.drop_eq_nil_of_le h2]at hJ
   have hJ':es=fI L:=hJ
   subst hJ'
   simp only[↓eB,seval,go_sem,xt,↓A1,PT,Kg,DG,DH,Option.isSome_some,Option.isSome_none,h1,hL,Mt]
   try simp only[A3,A4]
   repeat' first|exact ck|with_reducible apply And.intro|intro _
   all_goals first|exact trivial|(rename_i h;first|exact oI h|exact nah h)|(rename_i _ h _ g;exact sL h g)|decide|omega|(refine A0 [] ?_;simp only[↓eB,seval,go_sem,bne,VD,M_S1,A6,xt,↓A1,hL])
  |some s=>
   have hlt:=(List.getElem?_eq_some_iff.1 hx).1
   have h1:=B9 hlt
   have hs:L.getD i []=s:=by simp[List.getD,hx]
   have hb:(0:Int)≤(i:Int)∧(i:Int)<(pp.cs.length:Int):=by rw[hlen];omega
   rw[Bp hx,U3]at hJ
   cases hm:Ap es s with
   |some j=>
    rw[hm]at hJ
    have hJ2:FZ (L.drop (i+1)) (i+1) es=fI L:=hJ
    simp only[↓eB,seval,go_sem,xt,↓A1,PT,Kg,DG,DH,Option.isSome_some,Option.isSome_none,h1,hL,hs,hm,w1]
    try simp only[A3,A4]
    repeat' first|exact ck|with_reducible apply And.intro|intro _
    all_goals try first|exact hb|exact hb.1|exact hb.2|(rename_i h;first|exact oI h|exact nah h)|(rename_i _ h _ g;exact sL h g)|decide|omega
    refine⟨(i+1,es),⟨hlt,hJ2⟩,by dsimp only;omega,A2 [] ?_⟩
    simp only[↓eB,seval,go_sem,xt,↓A1,JZ]
   |none=>
    rw[hm]at hJ
    have hJ2:FZ (L.drop (i+1)) (i+1) (C2 es s (i:Int))=fI L:=hJ
    simp only[↓eB,seval,go_sem,xt,↓A1,PT,Kg,DG,DH,Option.isSome_some,Option.isSome_none,h1,hL,hs,hm,w1]
    try simp only[A3,A4]
    repeat' first|exact ck|with_reducible apply And.intro|intro _
    all_goals try first|exact hb|exact hb.1|exact hb.2|(rename_i h;first|exact oI h|exact nah h)|(rename_i _ h _ g;exact sL h g)|decide|omega
    refine⟨(i+1,C2 es s (i:Int)),⟨hlt,hJ2⟩,by dsimp only;omega,A2 [] ?_⟩
    simp only[↓eB,seval,go_sem,xt,↓A1,JZ]
abbrev bD (q:Int×Sta):Prop:=q.1=((q.2.ar.map Na.s).length:Int)∧(q.2.ar.map Na.s).length≤1000000
abbrev VE (q:Int×Sta):SV:=.one (.d (.mp (mpI (fI (q.2.ar.map Na.s)))))
abbrev M_S2 (q:Int×Sta):List (Option ML):=[some (.vec zSta [stR q.2])]
theorem eD:E9 Try.prog 31 (Dc 47 mSt).args (Dc 47 mSt).mem bD (fun _=>false) VE M_S2 (fun _=>mlO [none]):=by
 rintro ⟨n,pp⟩ w M I lab fz xs ⟨hc1,hc2⟩ hA hl hx
 dsimp only at hc1 hc2
 refine Ce Try.func31 rfl [.vec zSta [stR pp]] w M I lab fz false [none] (M_S2 (n,pp)) [PU] [(9,[.fzm 9])] ((Dc 47 mSt).args (n,pp)) (VE (n,pp)) xs hA hl hx ?_ (jN rfl) (Nat.le_refl _) rfl PV ?_
 ·intro v hv k hk
  simp only[Kb,List.mem_cons,List.not_mem_nil,or_false]at hv
  rcases hv with rfl|rfl
  ·cases hk
  ·simp only[SV.names,C.names,List.flatMap_cons,List.flatMap_nil,append_nil,capN,mem_singleton]at hk
   subst hk;show 0<1;decide
 clear hx hl hA xs
 subst hc1
 simp only[Try.f31]
 obtain⟨L,hL⟩:∃L,pp.ar.map Na.s=L:=⟨_,rfl⟩
 have hlen:pp.ar.length=L.length:=by rw[← hL];simp
 rw[hL]at hc2
 simp only[↓eB,seval,go_sem,xt,↓A1,PU,Kh,DG,DH,Option.isSome_some,Option.isSome_none,hL]
 refine AU (Y:=Nat×List (List UInt8×Int)) (fun z=>z.1≤L.length∧FZ (L.drop z.1) z.1 z.2=fI L)
  (fun z=>⟨[(1,true,.one (.fn 47 [.p 0 0 0])),(5,true,.one (.s 9)),(10,true,.one (.v (.int .i64 (L.length:Int)))),(11,true,.one (.v (.int .i64 (z.1:Int))))],[(0,.vec 0 zSta [stR pp]),(9,.mp false (z.2.map fun p=>(p.1,[C.v (.int .i64 p.2)])))]⟩)
  (fun z=>L.length-z.1) (0,[]) ⟨Nat.zero_le _,rfl⟩ ?_ ?_
 ·refine A2 [] ?_;simp only[↓eB,seval,go_sem,xt,↓A1,Mr]
 ·rintro ⟨i,es⟩ ⟨hi,hJ⟩
  dsimp only at hi hJ
  refine Ak [PU] [(9,[.fzm 9])] _ _ _ ?_
  have w1:IntKind.i64.wrap ((i:Int)+1)=((i+1:Nat):Int):=by rw[wrap_i64 (by omega) (by omega)];rfl
  cases hx:L[i]? with
  |none=>
   have h2:=List.getElem?_eq_none_iff.1 hx
   have h1:=BA h2
   rw[List.drop_eq_nil_of_le h2]at hJ
   have hJ':es=fI L:=hJ
   subst hJ'
   simp only[↓eB,seval,go_sem,xt,↓A1,PU,Kh,DG,DH,Option.isSome_some,Option.isSome_none,h1,hL,Mt]
   try simp only[A3,A4]
   repeat' first|exact ck|with_reducible apply And.intro|intro _
   all_goals first|exact trivial|(rename_i h;first|exact oI h|exact nah h)|(rename_i _ h _ g;exact sL h g)|decide|omega|(refine A0 [] ?_;simp only[↓eB,seval,go_sem,bne,VE,M_S2,A6,xt,↓A1,hL])
  |some s=>
   have hlt:=(List.getElem?_eq_some_iff.1 hx).1
   have h1:=B9 hlt
   have hs:L.getD i []=s:=by simp[List.getD,hx]
   have hb:(0:Int)≤(i:Int)∧(i:Int)<(pp.ar.length:Int):=by rw[hlen];omega
   rw[Bp hx,U3]at hJ
   cases hm:Ap es s with
   |some j=>
    rw[hm]at hJ
    have hJ2:FZ (L.drop (i+1)) (i+1) es=fI L:=hJ
    simp only[↓eB,seval,go_sem,xt,↓A1,PU,Kh,DG,DH,Option.isSome_some,Option.isSome_none,h1,hL,hs,hm,w1]
    try simp only[A3,A4]
    repeat' first|exact ck|with_reducible apply And.intro|intro _
    all_goals try first|exact hb|exact hb.1|exact hb.2|(rename_i h;first|exact oI h|exact nah h)|(rename_i _ h _ g;exact sL h g)|decide|omega
    refine⟨(i+1,es),⟨hlt,hJ2⟩,by dsimp only;omega,A2 [] ?_⟩
    simp only[↓eB,seval,go_sem,xt,↓A1,JZ]
   |none=>
    rw[hm]at hJ
    have hJ2:FZ (L.drop (i+1)) (i+1) (C2 es s (i:Int))=fI L:=hJ
    simp only[↓eB,seval,go_sem,xt,↓A1,PU,Kh,DG,DH,Option.isSome_some,Option.isSome_none,h1,hL,hs,hm,w1]
    try simp only[A3,A4]
    repeat' first|exact ck|with_reducible apply And.intro|intro _
    all_goals try first|exact hb|exact hb.1|exact hb.2|(rename_i h;first|exact oI h|exact nah h)|(rename_i _ h _ g;exact sL h g)|decide|omega
    refine⟨(i+1,C2 es s (i:Int)),⟨hlt,hJ2⟩,by dsimp only;omega,A2 [] ?_⟩
    simp only[↓eB,seval,go_sem,xt,↓A1,JZ]
end Go.Proofs.Ytjnnmindcbgjhaa
