/- first, with each of its closures, walked. No conditions but those in each statement. -/
import Derived.Test.YtjnnmindcbgjhaaRmf
set_option linter.unusedVariables false
set_option linter.unusedSimpArgs false
set_option maxRecDepth 20000
set_option maxHeartbeats 16000000
open List (append_nil mem_singleton)
namespace Go.Proofs.Ytjnnmindcbgjhaa
open Go Go.Sy Go.RowKit
theorem Tj {s:List UInt8} {r:List (List UInt8)} {i:Nat} {es:List (List UInt8×Int)}:GT (s::r) i es=GT r (i+1) (if (B4 es s).isSome=true then es else CB es s (i:Int)):=rfl
theorem MX:(List.map (fun p:List UInt8×Int=>(p.1,[C.v (.int .i64 p.2)])) [])=[]:=rfl
theorem PE:∀q,some q∈([none]:List (Option MV))→∀r∈q.2,∀c∈r,c.names=[]:=by intro q hq;simp at hq
theorem JM (es:List (List UInt8×Int)):List.flatMap (fun p=>List.flatMap C.names p.2) (es.map fun p=>(p.1,[C.v (.int .i64 p.2)]))=[]:=List.flatMap_eq_nil_iff.2 fun p hp=>by
 obtain⟨a,_,rfl⟩:=List.mem_map.1 hp
 rfl
theorem MY:∀es:List (List UInt8×Int),QI (es.map fun p=>(p.1,[C.v (.int .i64 p.2)]))=some (mpI es)
 |[]=>rfl
 |(k,i)::r=>by
  have:=MY r
  simp only[List.map_cons,QI,this];rfl
abbrev WW (q:Int×Pg):Prop:=q.1=((q.2.fs.map Fn.name).length:Int)∧(q.2.fs.map Fn.name).length≤1000000
abbrev Ut (q:Int×Pg):SV:=.one (.d (.mp (mpI (fI (q.2.fs.map Fn.name)))))
abbrev M_C1 (q:Int×Pg):List (Option ML):=[some (.vec zPg [pgR q.2])]
attribute [local go_sem] Fa.mem Fa.memO Fa.pan ML.ch ML.ren Sm.ar Sm.cd Sm.e Sm.el Sm.f Sm.k Sm.no Sm.th Sm.x Sm.y KN Th Ti G6 G5 G7 Dl BJ BP BQ BE BN BO KV KU Cy Cx chL IB EL EK GB fcN Im Tg WV frC IC G4 lmH lmO Tc Pu Tb Rk Te Tf ID HE E9 DQ DR nmX AB AA pgR Ej Ds Dt Fo Fm EO F8 rnC H7 AK D8 Dr DP stR CR EY vrQ IE Io
theorem dX:E8 Try.prog 31 (Dd 32 mPg).args (Dd 32 mPg).mem WW (fun _=>false) Ut M_C1 (fun _=>mlO [none]):=by
 rintro ⟨n,pp⟩ w M I lab fz xs ⟨hc1,hc2⟩ hA hl hx
 dsimp only at hc1 hc2
 refine Cb Try.func31 rfl [.vec zPg [pgR pp]] w M I lab fz false [none] (M_C1 (n,pp)) [P9] [(9,[.fzm 9])] ((Dd 32 mPg).args (n,pp)) (Ut (n,pp)) xs hA hl hx ?_ (jN rfl) (Nat.le_refl _) rfl PE ?_
 ·intro v hv k hk
  simp only[KN,List.mem_cons,List.not_mem_nil,or_false]at hv
  rcases hv with rfl|rfl
  ·cases hk
  ·simp only[SV.names,C.names,List.flatMap_cons,List.flatMap_nil,append_nil,capN,mem_singleton]at hk
   subst hk;show 0<1;decide
 clear hx hl hA xs
 subst hc1
 simp only[Try.f31]
 obtain⟨L,hL⟩:∃L,pp.fs.map Fn.name=L:=⟨_,rfl⟩
 have hlen:pp.fs.length=L.length:=by rw[← hL];simp
 rw[hL]at hc2
 simp only[↓eB,seval,go_sem,xt,↓A1,P9,KO,DF,DG,Option.isSome_some,Option.isSome_none,hL]
 refine Ab (Y:=Nat×List (List UInt8×Int)) (fun z=>z.1≤L.length∧GT (L.drop z.1) z.1 z.2=fI L)
  (fun z=>⟨[(1,true,.one (.fn 32 [.p 0 0 0])),(5,true,.one (.s 9)),(10,true,.one (.v (.int .i64 (L.length:Int)))),(11,true,.one (.v (.int .i64 (z.1:Int))))],[(0,.vec 0 zPg [pgR pp]),(9,.mp false (z.2.map fun p=>(p.1,[C.v (.int .i64 p.2)])))]⟩)
  (fun z=>L.length-z.1) (0,[]) ⟨Nat.zero_le _,rfl⟩ ?_ ?_
 ·refine A4 [] ?_;simp only[↓eB,seval,go_sem,xt,↓A1,MX]
 ·rintro ⟨i,es⟩ ⟨hi,hJ⟩
  dsimp only at hi hJ
  refine Au [P9] [(9,[.fzm 9])] _ _ _ ?_
  have w1:IntKind.i64.wrap ((i:Int)+1)=((i+1:Nat):Int):=by rw[wrap_i64 (by omega) (by omega)];rfl
  cases hx:L[i]? with
  |none=>
   have h2:=List.getElem?_eq_none_iff.1 hx
   have h1:=BG h2
   rw[List.drop_eq_nil_of_le h2]at hJ
   have hJ':es=fI L:=hJ
   subst hJ'
   simp only[↓eB,seval,go_sem,xt,↓A1,P9,KO,DF,DG,Option.isSome_some,Option.isSome_none,h1,hL,MY]
   try simp only[A2,A3]
   repeat' first|exact ck|with_reducible apply And.intro|intro _
   all_goals first|exact trivial|(rename_i h;first|exact oI h|exact nah h)|(rename_i _ h _ g;exact sL h g)|decide|omega|(refine A0 [] ?_;simp only[↓eB,seval,go_sem,bne,Ut,M_C1,A6,xt,↓A1,hL])
  |some s=>
   have hlt:=(List.getElem?_eq_some_iff.1 hx).1
   have h1:=BF hlt
   have hs:L.getD i []=s:=by simp[List.getD,hx]
   have hb:(0:Int)≤(i:Int)∧(i:Int)<(pp.fs.length:Int):=by rw[hlen];omega
   rw[CA hx,Tj]at hJ
   cases hm:B4 es s with
   |some j=>
    rw[hm]at hJ
    have hJ2:GT (L.drop (i+1)) (i+1) es=fI L:=hJ
    simp only[↓eB,seval,go_sem,xt,↓A1,P9,KO,DF,DG,Option.isSome_some,Option.isSome_none,h1,hL,hs,hm,w1]
    try simp only[A2,A3]
    repeat' first|exact ck|with_reducible apply And.intro|intro _
    all_goals try first|exact hb|exact hb.1|exact hb.2|(rename_i h;first|exact oI h|exact nah h)|(rename_i _ h _ g;exact sL h g)|decide|omega
    refine⟨(i+1,es),⟨hlt,hJ2⟩,by dsimp only;omega,A4 [] ?_⟩
    simp only[↓eB,seval,go_sem,xt,↓A1,JM]
   |none=>
    rw[hm]at hJ
    have hJ2:GT (L.drop (i+1)) (i+1) (CB es s (i:Int))=fI L:=hJ
    simp only[↓eB,seval,go_sem,xt,↓A1,P9,KO,DF,DG,Option.isSome_some,Option.isSome_none,h1,hL,hs,hm,w1]
    try simp only[A2,A3]
    repeat' first|exact ck|with_reducible apply And.intro|intro _
    all_goals try first|exact hb|exact hb.1|exact hb.2|(rename_i h;first|exact oI h|exact nah h)|(rename_i _ h _ g;exact sL h g)|decide|omega
    refine⟨(i+1,CB es s (i:Int)),⟨hlt,hJ2⟩,by dsimp only;omega,A4 [] ?_⟩
    simp only[↓eB,seval,go_sem,xt,↓A1,JM]
abbrev WX (q:Int×Pg):Prop:=q.1=((q.2.g.c).length:Int)∧(q.2.g.c).length≤1000000
abbrev Uu (q:Int×Pg):SV:=.one (.d (.mp (mpI (fI (q.2.g.c)))))
abbrev Uv (q:Int×Pg):List (Option ML):=[some (.vec zPg [pgR q.2])]
theorem dY:E8 Try.prog 31 (Dd 33 mPg).args (Dd 33 mPg).mem WX (fun _=>false) Uu Uv (fun _=>mlO [none]):=by
 rintro ⟨n,⟨⟨L,pa⟩,pfs⟩⟩ w M I lab fz xs ⟨hc1,hc2⟩ hA hl hx
 dsimp only at hc1 hc2
 refine Cb Try.func31 rfl [.vec zPg [pgR (⟨⟨L,pa⟩,pfs⟩:Pg)]] w M I lab fz false [none] (Uv (n,(⟨⟨L,pa⟩,pfs⟩:Pg))) [PA] [(9,[.fzm 9])] ((Dd 33 mPg).args (n,(⟨⟨L,pa⟩,pfs⟩:Pg))) (Uu (n,(⟨⟨L,pa⟩,pfs⟩:Pg))) xs hA hl hx ?_ (jN rfl) (Nat.le_refl _) rfl PE ?_
 ·intro v hv k hk
  simp only[KN,List.mem_cons,List.not_mem_nil,or_false]at hv
  rcases hv with rfl|rfl
  ·cases hk
  ·simp only[SV.names,C.names,List.flatMap_cons,List.flatMap_nil,append_nil,capN,mem_singleton]at hk
   subst hk;show 0<1;decide
 clear hx hl hA xs
 subst hc1
 simp only[Try.f31]
 have hL:(⟨⟨L,pa⟩,pfs⟩:Pg).g.c=L:=rfl
 have hlen:(⟨⟨L,pa⟩,pfs⟩:Pg).g.c.length=L.length:=rfl
 simp only[↓eB,seval,go_sem,xt,↓A1,PA,KP,DF,DG,Option.isSome_some,Option.isSome_none,hL]
 refine Ab (Y:=Nat×List (List UInt8×Int)) (fun z=>z.1≤L.length∧GT (L.drop z.1) z.1 z.2=fI L)
  (fun z=>⟨[(1,true,.one (.fn 33 [.p 0 0 0])),(5,true,.one (.s 9)),(10,true,.one (.v (.int .i64 (L.length:Int)))),(11,true,.one (.v (.int .i64 (z.1:Int))))],[(0,.vec 0 zPg [pgR (⟨⟨L,pa⟩,pfs⟩:Pg)]),(9,.mp false (z.2.map fun p=>(p.1,[C.v (.int .i64 p.2)])))]⟩)
  (fun z=>L.length-z.1) (0,[]) ⟨Nat.zero_le _,rfl⟩ ?_ ?_
 ·refine A4 [] ?_;simp only[↓eB,seval,go_sem,xt,↓A1,MX]
 ·rintro ⟨i,es⟩ ⟨hi,hJ⟩
  dsimp only at hi hJ
  refine Au [PA] [(9,[.fzm 9])] _ _ _ ?_
  have w1:IntKind.i64.wrap ((i:Int)+1)=((i+1:Nat):Int):=by rw[wrap_i64 (by omega) (by omega)];rfl
  cases hx:L[i]? with
  |none=>
   have h2:=List.getElem?_eq_none_iff.1 hx
   have h1:=BG h2
   rw[List.drop_eq_nil_of_le h2]at hJ
   have hJ':es=fI L:=hJ
   subst hJ'
   simp only[↓eB,seval,go_sem,xt,↓A1,PA,KP,DF,DG,Option.isSome_some,Option.isSome_none,h1,hL,MY]
   try simp only[A2,A3]
   repeat' first|exact ck|with_reducible apply And.intro|intro _
   all_goals first|exact trivial|(rename_i h;first|exact oI h|exact nah h)|(rename_i _ h _ g;exact sL h g)|decide|omega|(refine A0 [] ?_;simp only[↓eB,seval,go_sem,bne,Uu,Uv,A6,xt,↓A1,hL])
  |some s=>
   have hlt:=(List.getElem?_eq_some_iff.1 hx).1
   have h1:=BF hlt
   have hs:L.getD i []=s:=by simp[List.getD,hx]
   have hb:(0:Int)≤(i:Int)∧(i:Int)<((⟨⟨L,pa⟩,pfs⟩:Pg).g.c.length:Int):=by rw[hlen];omega
   rw[CA hx,Tj]at hJ
   cases hm:B4 es s with
   |some j=>
    rw[hm]at hJ
    have hJ2:GT (L.drop (i+1)) (i+1) es=fI L:=hJ
    simp only[↓eB,seval,go_sem,xt,↓A1,PA,KP,DF,DG,Option.isSome_some,Option.isSome_none,h1,hL,hs,hm,w1]
    try simp only[A2,A3]
    repeat' first|exact ck|with_reducible apply And.intro|intro _
    all_goals try first|exact hb|exact hb.1|exact hb.2|(rename_i h;first|exact oI h|exact nah h)|(rename_i _ h _ g;exact sL h g)|decide|omega
    refine⟨(i+1,es),⟨hlt,hJ2⟩,by dsimp only;omega,A4 [] ?_⟩
    simp only[↓eB,seval,go_sem,xt,↓A1,JM]
   |none=>
    rw[hm]at hJ
    have hJ2:GT (L.drop (i+1)) (i+1) (CB es s (i:Int))=fI L:=hJ
    simp only[↓eB,seval,go_sem,xt,↓A1,PA,KP,DF,DG,Option.isSome_some,Option.isSome_none,h1,hL,hs,hm,w1]
    try simp only[A2,A3]
    repeat' first|exact ck|with_reducible apply And.intro|intro _
    all_goals try first|exact hb|exact hb.1|exact hb.2|(rename_i h;first|exact oI h|exact nah h)|(rename_i _ h _ g;exact sL h g)|decide|omega
    refine⟨(i+1,CB es s (i:Int)),⟨hlt,hJ2⟩,by dsimp only;omega,A4 [] ?_⟩
    simp only[↓eB,seval,go_sem,xt,↓A1,JM]
abbrev WY (q:Int×Pg):Prop:=q.1=((q.2.g.a.map Gy.s).length:Int)∧(q.2.g.a.map Gy.s).length≤1000000
abbrev Uw (q:Int×Pg):SV:=.one (.d (.mp (mpI (fI (q.2.g.a.map Gy.s)))))
abbrev M_C3 (q:Int×Pg):List (Option ML):=[some (.vec zPg [pgR q.2])]
theorem dZ:E8 Try.prog 31 (Dd 34 mPg).args (Dd 34 mPg).mem WY (fun _=>false) Uw M_C3 (fun _=>mlO [none]):=by
 rintro ⟨n,pp⟩ w M I lab fz xs ⟨hc1,hc2⟩ hA hl hx
 dsimp only at hc1 hc2
 refine Cb Try.func31 rfl [.vec zPg [pgR pp]] w M I lab fz false [none] (M_C3 (n,pp)) [PB] [(9,[.fzm 9])] ((Dd 34 mPg).args (n,pp)) (Uw (n,pp)) xs hA hl hx ?_ (jN rfl) (Nat.le_refl _) rfl PE ?_
 ·intro v hv k hk
  simp only[KN,List.mem_cons,List.not_mem_nil,or_false]at hv
  rcases hv with rfl|rfl
  ·cases hk
  ·simp only[SV.names,C.names,List.flatMap_cons,List.flatMap_nil,append_nil,capN,mem_singleton]at hk
   subst hk;show 0<1;decide
 clear hx hl hA xs
 subst hc1
 simp only[Try.f31]
 obtain⟨L,hL⟩:∃L,pp.g.a.map Gy.s=L:=⟨_,rfl⟩
 have hlen:pp.g.a.length=L.length:=by rw[← hL];simp
 rw[hL]at hc2
 simp only[↓eB,seval,go_sem,xt,↓A1,PB,KQ,DF,DG,Option.isSome_some,Option.isSome_none,hL]
 refine Ab (Y:=Nat×List (List UInt8×Int)) (fun z=>z.1≤L.length∧GT (L.drop z.1) z.1 z.2=fI L)
  (fun z=>⟨[(1,true,.one (.fn 34 [.p 0 0 0])),(5,true,.one (.s 9)),(10,true,.one (.v (.int .i64 (L.length:Int)))),(11,true,.one (.v (.int .i64 (z.1:Int))))],[(0,.vec 0 zPg [pgR pp]),(9,.mp false (z.2.map fun p=>(p.1,[C.v (.int .i64 p.2)])))]⟩)
  (fun z=>L.length-z.1) (0,[]) ⟨Nat.zero_le _,rfl⟩ ?_ ?_
 ·refine A4 [] ?_;simp only[↓eB,seval,go_sem,xt,↓A1,MX]
 ·rintro ⟨i,es⟩ ⟨hi,hJ⟩
  dsimp only at hi hJ
  refine Au [PB] [(9,[.fzm 9])] _ _ _ ?_
  have w1:IntKind.i64.wrap ((i:Int)+1)=((i+1:Nat):Int):=by rw[wrap_i64 (by omega) (by omega)];rfl
  cases hx:L[i]? with
  |none=>
   have h2:=List.getElem?_eq_none_iff.1 hx
   have h1:=BG h2
   rw[List.drop_eq_nil_of_le h2]at hJ
   have hJ':es=fI L:=hJ
   subst hJ'
   simp only[↓eB,seval,go_sem,xt,↓A1,PB,KQ,DF,DG,Option.isSome_some,Option.isSome_none,h1,hL,MY]
   try simp only[A2,A3]
   repeat' first|exact ck|with_reducible apply And.intro|intro _
   all_goals first|exact trivial|(rename_i h;first|exact oI h|exact nah h)|(rename_i _ h _ g;exact sL h g)|decide|omega|(refine A0 [] ?_;simp only[↓eB,seval,go_sem,bne,Uw,M_C3,A6,xt,↓A1,hL])
  |some s=>
   have hlt:=(List.getElem?_eq_some_iff.1 hx).1
   have h1:=BF hlt
   have hs:L.getD i []=s:=by simp[List.getD,hx]
   have hb:(0:Int)≤(i:Int)∧(i:Int)<(pp.g.a.length:Int):=by rw[hlen];omega
   rw[CA hx,Tj]at hJ
   cases hm:B4 es s with
   |some j=>
    rw[hm]at hJ
    have hJ2:GT (L.drop (i+1)) (i+1) es=fI L:=hJ
    simp only[↓eB,seval,go_sem,xt,↓A1,PB,KQ,DF,DG,Option.isSome_some,Option.isSome_none,h1,hL,hs,hm,w1]
    try simp only[A2,A3]
    repeat' first|exact ck|with_reducible apply And.intro|intro _
    all_goals try first|exact hb|exact hb.1|exact hb.2|(rename_i h;first|exact oI h|exact nah h)|(rename_i _ h _ g;exact sL h g)|decide|omega
    refine⟨(i+1,es),⟨hlt,hJ2⟩,by dsimp only;omega,A4 [] ?_⟩
    simp only[↓eB,seval,go_sem,xt,↓A1,JM]
   |none=>
    rw[hm]at hJ
    have hJ2:GT (L.drop (i+1)) (i+1) (CB es s (i:Int))=fI L:=hJ
    simp only[↓eB,seval,go_sem,xt,↓A1,PB,KQ,DF,DG,Option.isSome_some,Option.isSome_none,h1,hL,hs,hm,w1]
    try simp only[A2,A3]
    repeat' first|exact ck|with_reducible apply And.intro|intro _
    all_goals try first|exact hb|exact hb.1|exact hb.2|(rename_i h;first|exact oI h|exact nah h)|(rename_i _ h _ g;exact sL h g)|decide|omega
    refine⟨(i+1,CB es s (i:Int)),⟨hlt,hJ2⟩,by dsimp only;omega,A4 [] ?_⟩
    simp only[↓eB,seval,go_sem,xt,↓A1,JM]
abbrev aV (q:Int×Sta):Prop:=q.1=((q.2.cs.map Nb.s).length:Int)∧(q.2.cs.map Nb.s).length≤1000000
abbrev Ux (q:Int×Sta):SV:=.one (.d (.mp (mpI (fI (q.2.cs.map Nb.s)))))
abbrev M_S1 (q:Int×Sta):List (Option ML):=[some (.vec zSta [stR q.2])]
theorem da:E8 Try.prog 31 (Dd 46 mSt).args (Dd 46 mSt).mem aV (fun _=>false) Ux M_S1 (fun _=>mlO [none]):=by
 rintro ⟨n,pp⟩ w M I lab fz xs ⟨hc1,hc2⟩ hA hl hx
 dsimp only at hc1 hc2
 refine Cb Try.func31 rfl [.vec zSta [stR pp]] w M I lab fz false [none] (M_S1 (n,pp)) [PC] [(9,[.fzm 9])] ((Dd 46 mSt).args (n,pp)) (Ux (n,pp)) xs hA hl hx ?_ (jN rfl) (Nat.le_refl _) rfl PE ?_
 ·intro v hv k hk
  simp only[KN,List.mem_cons,List.not_mem_nil,or_false]at hv
  rcases hv with rfl|rfl
  ·cases hk
  ·simp only[SV.names,C.names,List.flatMap_cons,List.flatMap_nil,append_nil,capN,mem_singleton]at hk
   subst hk;show 0<1;decide
 clear hx hl hA xs
 subst hc1
 simp only[Try.f31]
 obtain⟨L,hL⟩:∃L,pp.cs.map Nb.s=L:=⟨_,rfl⟩
 have hlen:pp.cs.length=L.length:=by rw[← hL];simp
 rw[hL]at hc2
 simp only[↓eB,seval,go_sem,xt,↓A1,PC,KR,DF,DG,Option.isSome_some,Option.isSome_none,hL]
 refine Ab (Y:=Nat×List (List UInt8×Int)) (fun z=>z.1≤L.length∧GT (L.drop z.1) z.1 z.2=fI L)
  (fun z=>⟨[(1,true,.one (.fn 46 [.p 0 0 0])),(5,true,.one (.s 9)),(10,true,.one (.v (.int .i64 (L.length:Int)))),(11,true,.one (.v (.int .i64 (z.1:Int))))],[(0,.vec 0 zSta [stR pp]),(9,.mp false (z.2.map fun p=>(p.1,[C.v (.int .i64 p.2)])))]⟩)
  (fun z=>L.length-z.1) (0,[]) ⟨Nat.zero_le _,rfl⟩ ?_ ?_
 ·refine A4 [] ?_;simp only[↓eB,seval,go_sem,xt,↓A1,MX]
 ·rintro ⟨i,es⟩ ⟨hi,hJ⟩
  dsimp only at hi hJ
  refine Au [PC] [(9,[.fzm 9])] _ _ _ ?_
  have w1:IntKind.i64.wrap ((i:Int)+1)=((i+1:Nat):Int):=by rw[wrap_i64 (by omega) (by omega)];rfl
  cases hx:L[i]? with
  |none=>
   have h2:=List.getElem?_eq_none_iff.1 hx
   have h1:=BG h2
   rw[List.drop_eq_nil_of_le h2]at hJ
   have hJ':es=fI L:=hJ
   subst hJ'
   simp only[↓eB,seval,go_sem,xt,↓A1,PC,KR,DF,DG,Option.isSome_some,Option.isSome_none,h1,hL,MY]
   try simp only[A2,A3]
   repeat' first|exact ck|with_reducible apply And.intro|intro _
   all_goals first|exact trivial|(rename_i h;first|exact oI h|exact nah h)|(rename_i _ h _ g;exact sL h g)|decide|omega|(refine A0 [] ?_;simp only[↓eB,seval,go_sem,bne,Ux,M_S1,A6,xt,↓A1,hL])
  |some s=>
   have hlt:=(List.getElem?_eq_some_iff.1 hx).1
   have h1:=BF hlt
   have hs:L.getD i []=s:=by simp[List.getD,hx]
   have hb:(0:Int)≤(i:Int)∧(i:Int)<(pp.cs.length:Int):=by rw[hlen];omega
   rw[CA hx,Tj]at hJ
   cases hm:B4 es s with
   |some j=>
    rw[hm]at hJ
    have hJ2:GT (L.drop (i+1)) (i+1) es=fI L:=hJ
    simp only[↓eB,seval,go_sem,xt,↓A1,PC,KR,DF,DG,Option.isSome_some,Option.isSome_none,h1,hL,hs,hm,w1]
    try simp only[A2,A3]
    repeat' first|exact ck|with_reducible apply And.intro|intro _
    all_goals try first|exact hb|exact hb.1|exact hb.2|(rename_i h;first|exact oI h|exact nah h)|(rename_i _ h _ g;exact sL h g)|decide|omega
    refine⟨(i+1,es),⟨hlt,hJ2⟩,by dsimp only;omega,A4 [] ?_⟩
    simp only[↓eB,seval,go_sem,xt,↓A1,JM]
   |none=>
    rw[hm]at hJ
    have hJ2:GT (L.drop (i+1)) (i+1) (CB es s (i:Int))=fI L:=hJ
    simp only[↓eB,seval,go_sem,xt,↓A1,PC,KR,DF,DG,Option.isSome_some,Option.isSome_none,h1,hL,hs,hm,w1]
    try simp only[A2,A3]
    repeat' first|exact ck|with_reducible apply And.intro|intro _
    all_goals try first|exact hb|exact hb.1|exact hb.2|(rename_i h;first|exact oI h|exact nah h)|(rename_i _ h _ g;exact sL h g)|decide|omega
    refine⟨(i+1,CB es s (i:Int)),⟨hlt,hJ2⟩,by dsimp only;omega,A4 [] ?_⟩
    simp only[↓eB,seval,go_sem,xt,↓A1,JM]
abbrev aW (q:Int×Sta):Prop:=q.1=((q.2.ar.map Na.s).length:Int)∧(q.2.ar.map Na.s).length≤1000000
abbrev Uy (q:Int×Sta):SV:=.one (.d (.mp (mpI (fI (q.2.ar.map Na.s)))))
abbrev M_S2 (q:Int×Sta):List (Option ML):=[some (.vec zSta [stR q.2])]
theorem db:E8 Try.prog 31 (Dd 47 mSt).args (Dd 47 mSt).mem aW (fun _=>false) Uy M_S2 (fun _=>mlO [none]):=by
 rintro ⟨n,pp⟩ w M I lab fz xs ⟨hc1,hc2⟩ hA hl hx
 dsimp only at hc1 hc2
 refine Cb Try.func31 rfl [.vec zSta [stR pp]] w M I lab fz false [none] (M_S2 (n,pp)) [PD] [(9,[.fzm 9])] ((Dd 47 mSt).args (n,pp)) (Uy (n,pp)) xs hA hl hx ?_ (jN rfl) (Nat.le_refl _) rfl PE ?_
 ·intro v hv k hk
  simp only[KN,List.mem_cons,List.not_mem_nil,or_false]at hv
  rcases hv with rfl|rfl
  ·cases hk
  ·simp only[SV.names,C.names,List.flatMap_cons,List.flatMap_nil,append_nil,capN,mem_singleton]at hk
   subst hk;show 0<1;decide
 clear hx hl hA xs
 subst hc1
 simp only[Try.f31]
 obtain⟨L,hL⟩:∃L,pp.ar.map Na.s=L:=⟨_,rfl⟩
 have hlen:pp.ar.length=L.length:=by rw[← hL];simp
 rw[hL]at hc2
 simp only[↓eB,seval,go_sem,xt,↓A1,PD,KS,DF,DG,Option.isSome_some,Option.isSome_none,hL]
 refine Ab (Y:=Nat×List (List UInt8×Int)) (fun z=>z.1≤L.length∧GT (L.drop z.1) z.1 z.2=fI L)
  (fun z=>⟨[(1,true,.one (.fn 47 [.p 0 0 0])),(5,true,.one (.s 9)),(10,true,.one (.v (.int .i64 (L.length:Int)))),(11,true,.one (.v (.int .i64 (z.1:Int))))],[(0,.vec 0 zSta [stR pp]),(9,.mp false (z.2.map fun p=>(p.1,[C.v (.int .i64 p.2)])))]⟩)
  (fun z=>L.length-z.1) (0,[]) ⟨Nat.zero_le _,rfl⟩ ?_ ?_
 ·refine A4 [] ?_;simp only[↓eB,seval,go_sem,xt,↓A1,MX]
 ·rintro ⟨i,es⟩ ⟨hi,hJ⟩
  dsimp only at hi hJ
  refine Au [PD] [(9,[.fzm 9])] _ _ _ ?_
  have w1:IntKind.i64.wrap ((i:Int)+1)=((i+1:Nat):Int):=by rw[wrap_i64 (by omega) (by omega)];rfl
  cases hx:L[i]? with
  |none=>
   have h2:=List.getElem?_eq_none_iff.1 hx
   have h1:=BG h2
   rw[List.drop_eq_nil_of_le h2]at hJ
   have hJ':es=fI L:=hJ
   subst hJ'
   simp only[↓eB,seval,go_sem,xt,↓A1,PD,KS,DF,DG,Option.isSome_some,Option.isSome_none,h1,hL,MY]
   try simp only[A2,A3]
   repeat' first|exact ck|with_reducible apply And.intro|intro _
   all_goals first|exact trivial|(rename_i h;first|exact oI h|exact nah h)|(rename_i _ h _ g;exact sL h g)|decide|omega|(refine A0 [] ?_;simp only[↓eB,seval,go_sem,bne,Uy,M_S2,A6,xt,↓A1,hL])
  |some s=>
   have hlt:=(List.getElem?_eq_some_iff.1 hx).1
   have h1:=BF hlt
   have hs:L.getD i []=s:=by simp[List.getD,hx]
   have hb:(0:Int)≤(i:Int)∧(i:Int)<(pp.ar.length:Int):=by rw[hlen];omega
   rw[CA hx,Tj]at hJ
   cases hm:B4 es s with
   |some j=>
    rw[hm]at hJ
    have hJ2:GT (L.drop (i+1)) (i+1) es=fI L:=hJ
    simp only[↓eB,seval,go_sem,xt,↓A1,PD,KS,DF,DG,Option.isSome_some,Option.isSome_none,h1,hL,hs,hm,w1]
    try simp only[A2,A3]
    repeat' first|exact ck|with_reducible apply And.intro|intro _
    all_goals try first|exact hb|exact hb.1|exact hb.2|(rename_i h;first|exact oI h|exact nah h)|(rename_i _ h _ g;exact sL h g)|decide|omega
    refine⟨(i+1,es),⟨hlt,hJ2⟩,by dsimp only;omega,A4 [] ?_⟩
    simp only[↓eB,seval,go_sem,xt,↓A1,JM]
   |none=>
    rw[hm]at hJ
    have hJ2:GT (L.drop (i+1)) (i+1) (CB es s (i:Int))=fI L:=hJ
    simp only[↓eB,seval,go_sem,xt,↓A1,PD,KS,DF,DG,Option.isSome_some,Option.isSome_none,h1,hL,hs,hm,w1]
    try simp only[A2,A3]
    repeat' first|exact ck|with_reducible apply And.intro|intro _
    all_goals try first|exact hb|exact hb.1|exact hb.2|(rename_i h;first|exact oI h|exact nah h)|(rename_i _ h _ g;exact sL h g)|decide|omega
    refine⟨(i+1,CB es s (i:Int)),⟨hlt,hJ2⟩,by dsimp only;omega,A4 [] ?_⟩
    simp only[↓eB,seval,go_sem,xt,↓A1,JM]
end Go.Proofs.Ytjnnmindcbgjhaa
