/- first, with each of its closures, walked. No conditions but those in each statement. -/
import Derived.Test.YtjnnmindcbgjhaaRmf
set_option linter.unusedVariables false
set_option linter.unusedSimpArgs false
set_option maxRecDepth 20000
set_option maxHeartbeats 16000000
open List (append_nil mem_singleton)
namespace Go.Proofs.Ytjnnmindcbgjhaa
open Go Go.Sy Go.RowKit
theorem Sb {s:List UInt8} {r:List (List UInt8)} {i:Nat} {es:List (List UInt8×Int)}:GB (s::r) i es=GB r (i+1) (if (B0 es s).isSome=true then es else C8 es s (i:Int)):=rfl
theorem M3:(List.map (fun p:List UInt8×Int=>(p.1,[C.v (.int .i64 p.2)])) [])=[]:=rfl
theorem OX:∀q,some q∈([none]:List (Option MV))→∀r∈q.2,∀c∈r,c.names=[]:=by intro q hq;simp at hq
theorem Iv (es:List (List UInt8×Int)):List.flatMap (fun p=>List.flatMap C.names p.2) (es.map fun p=>(p.1,[C.v (.int .i64 p.2)]))=[]:=List.flatMap_eq_nil_iff.2 fun p hp=>by
 obtain⟨a,_,rfl⟩:=List.mem_map.1 hp
 rfl
theorem M4:∀es:List (List UInt8×Int),PQ (es.map fun p=>(p.1,[C.v (.int .i64 p.2)]))=some (mpI es)
 |[]=>rfl
 |(k,i)::r=>by
  have:=M4 r
  simp only[List.map_cons,PQ,this];rfl
abbrev V9 (q:Int×Pg):Prop:=q.1=((q.2.fs.map Fn.name).length:Int)∧(q.2.fs.map Fn.name).length≤1000000
abbrev Tc (q:Int×Pg):SV:=.one (.d (.mp (mpI (fI (q.2.fs.map Fn.name)))))
abbrev M_C1 (q:Int×Pg):List (Option ML):=[some (.vec zPg [pgR q.2])]
attribute [local go_sem] Fa.mem Fa.memO Fa.pan ML.ch ML.ren Sm.ar Sm.cd Sm.e Sm.el Sm.f Sm.k Sm.no Sm.th Sm.x Sm.y Jt SZ Sa Fo Fm Fp EA BG BO BP BD BM BN K1 K0 Cw Cv chL Hf E5 E4 Fu fcN IF SY V8 frC Hg Fl lmH lmO SS P5 SR Qj SW SX Hh Gg EZ Dl Dm nmX AB AA pgR EY Dj Dk FS FR EX Fb rnC Gc AK DW EC Db stR CT Ee vrQ Hi IG
theorem bi:EB Try.prog 31 (DV 32 mPg).args (DV 32 mPg).mem V9 (fun _=>false) Tc M_C1 (fun _=>mlO [none]):=by
 rintro ⟨n,pp⟩ w M I lab fz xs ⟨hc1,hc2⟩ hA hl hx
 dsimp only at hc1 hc2
 refine Cj Try.func31 rfl [.vec zPg [pgR pp]] w M I lab fz false [none] (M_C1 (n,pp)) [OS] [(9,[.fzm 9])] ((DV 32 mPg).args (n,pp)) (Tc (n,pp)) xs hA hl hx ?_ (jN rfl) (Nat.le_refl _) rfl OX ?_
 ·intro v hv k hk
  simp only[Jt,List.mem_cons,List.not_mem_nil,or_false]at hv
  rcases hv with rfl|rfl
  ·cases hk
  ·simp only[SV.names,C.names,List.flatMap_cons,List.flatMap_nil,append_nil,capN,mem_singleton]at hk
   subst hk;show 0<1;decide
 clear hx hl hA xs
 subst hc1
 simp only[Try.f31]
 obtain⟨L,hL⟩:∃L,pp.fs.map Fn.name=L:=⟨_,rfl⟩
 have hlen:pp.fs.length=L.length:=by rw[← hL];simp
 rw[hL]at hc2
 simp only[↓eB,seval,go_sem,xt,↓A1,OS,Ju,D9,DA,Option.isSome_some,Option.isSome_none,hL]
 refine Ac (Y:=Nat×List (List UInt8×Int)) (fun z=>z.1≤L.length∧GB (L.drop z.1) z.1 z.2=fI L)
  (fun z=>⟨[(1,true,.one (.fn 32 [.p 0 0 0])),(5,true,.one (.s 9)),(10,true,.one (.v (.int .i64 (L.length:Int)))),(11,true,.one (.v (.int .i64 (z.1:Int))))],[(0,.vec 0 zPg [pgR pp]),(9,.mp false (z.2.map fun p=>(p.1,[C.v (.int .i64 p.2)])))]⟩)
  (fun z=>L.length-z.1) (0,[]) ⟨Nat.zero_le _,rfl⟩ ?_ ?_
 ·refine A2 [] ?_;simp only[↓eB,seval,go_sem,xt,↓A1,M3]
 ·rintro ⟨i,es⟩ ⟨hi,hJ⟩
  dsimp only at hi hJ
  refine Aq [OS] [(9,[.fzm 9])] _ _ _ ?_
  have w1:IntKind.i64.wrap ((i:Int)+1)=((i+1:Nat):Int):=by rw[wrap_i64 (by omega) (by omega)];rfl
  cases hx:L[i]? with
  |none=>
   have h2:=List.getElem?_eq_none_iff.1 hx
   have h1:=BA h2
   rw[List.drop_eq_nil_of_le h2]at hJ
   have hJ':es=fI L:=hJ
   subst hJ'
   simp only[↓eB,seval,go_sem,xt,↓A1,OS,Ju,D9,DA,Option.isSome_some,Option.isSome_none,h1,hL,M4]
   try simp only[A3,A4]
   repeat' first|exact ck|with_reducible apply And.intro|intro _
   all_goals first|exact trivial|(rename_i h;first|exact oI h|exact nah h)|(rename_i _ h _ g;exact sL h g)|decide|omega|(refine A0 [] ?_;simp only[↓eB,seval,go_sem,bne,Tc,M_C1,A6,xt,↓A1,hL])
  |some s=>
   have hlt:=(List.getElem?_eq_some_iff.1 hx).1
   have h1:=B9 hlt
   have hs:L.getD i []=s:=by simp[List.getD,hx]
   have hb:(0:Int)≤(i:Int)∧(i:Int)<(pp.fs.length:Int):=by rw[hlen];omega
   rw[Bn hx,Sb]at hJ
   cases hm:B0 es s with
   |some j=>
    rw[hm]at hJ
    have hJ2:GB (L.drop (i+1)) (i+1) es=fI L:=hJ
    simp only[↓eB,seval,go_sem,xt,↓A1,OS,Ju,D9,DA,Option.isSome_some,Option.isSome_none,h1,hL,hs,hm,w1]
    try simp only[A3,A4]
    repeat' first|exact ck|with_reducible apply And.intro|intro _
    all_goals try first|exact hb|exact hb.1|exact hb.2|(rename_i h;first|exact oI h|exact nah h)|(rename_i _ h _ g;exact sL h g)|decide|omega
    refine⟨(i+1,es),⟨hlt,hJ2⟩,by dsimp only;omega,A2 [] ?_⟩
    simp only[↓eB,seval,go_sem,xt,↓A1,Iv]
   |none=>
    rw[hm]at hJ
    have hJ2:GB (L.drop (i+1)) (i+1) (C8 es s (i:Int))=fI L:=hJ
    simp only[↓eB,seval,go_sem,xt,↓A1,OS,Ju,D9,DA,Option.isSome_some,Option.isSome_none,h1,hL,hs,hm,w1]
    try simp only[A3,A4]
    repeat' first|exact ck|with_reducible apply And.intro|intro _
    all_goals try first|exact hb|exact hb.1|exact hb.2|(rename_i h;first|exact oI h|exact nah h)|(rename_i _ h _ g;exact sL h g)|decide|omega
    refine⟨(i+1,C8 es s (i:Int)),⟨hlt,hJ2⟩,by dsimp only;omega,A2 [] ?_⟩
    simp only[↓eB,seval,go_sem,xt,↓A1,Iv]
abbrev VA (q:Int×Pg):Prop:=q.1=((q.2.g.c).length:Int)∧(q.2.g.c).length≤1000000
abbrev Td (q:Int×Pg):SV:=.one (.d (.mp (mpI (fI (q.2.g.c)))))
abbrev Te (q:Int×Pg):List (Option ML):=[some (.vec zPg [pgR q.2])]
theorem bj:EB Try.prog 31 (DV 33 mPg).args (DV 33 mPg).mem VA (fun _=>false) Td Te (fun _=>mlO [none]):=by
 rintro ⟨n,⟨⟨L,pa⟩,pfs⟩⟩ w M I lab fz xs ⟨hc1,hc2⟩ hA hl hx
 dsimp only at hc1 hc2
 refine Cj Try.func31 rfl [.vec zPg [pgR (⟨⟨L,pa⟩,pfs⟩:Pg)]] w M I lab fz false [none] (Te (n,(⟨⟨L,pa⟩,pfs⟩:Pg))) [OT] [(9,[.fzm 9])] ((DV 33 mPg).args (n,(⟨⟨L,pa⟩,pfs⟩:Pg))) (Td (n,(⟨⟨L,pa⟩,pfs⟩:Pg))) xs hA hl hx ?_ (jN rfl) (Nat.le_refl _) rfl OX ?_
 ·intro v hv k hk
  simp only[Jt,List.mem_cons,List.not_mem_nil,or_false]at hv
  rcases hv with rfl|rfl
  ·cases hk
  ·simp only[SV.names,C.names,List.flatMap_cons,List.flatMap_nil,append_nil,capN,mem_singleton]at hk
   subst hk;show 0<1;decide
 clear hx hl hA xs
 subst hc1
 simp only[Try.f31]
 have hL:(⟨⟨L,pa⟩,pfs⟩:Pg).g.c=L:=rfl
 have hlen:(⟨⟨L,pa⟩,pfs⟩:Pg).g.c.length=L.length:=rfl
 simp only[↓eB,seval,go_sem,xt,↓A1,OT,Jv,D9,DA,Option.isSome_some,Option.isSome_none,hL]
 refine Ac (Y:=Nat×List (List UInt8×Int)) (fun z=>z.1≤L.length∧GB (L.drop z.1) z.1 z.2=fI L)
  (fun z=>⟨[(1,true,.one (.fn 33 [.p 0 0 0])),(5,true,.one (.s 9)),(10,true,.one (.v (.int .i64 (L.length:Int)))),(11,true,.one (.v (.int .i64 (z.1:Int))))],[(0,.vec 0 zPg [pgR (⟨⟨L,pa⟩,pfs⟩:Pg)]),(9,.mp false (z.2.map fun p=>(p.1,[C.v (.int .i64 p.2)])))]⟩)
  (fun z=>L.length-z.1) (0,[]) ⟨Nat.zero_le _,rfl⟩ ?_ ?_
 ·refine A2 [] ?_;simp only[↓eB,seval,go_sem,xt,↓A1,M3]
 ·rintro ⟨i,es⟩ ⟨hi,hJ⟩
  dsimp only at hi hJ
  refine Aq [OT] [(9,[.fzm 9])] _ _ _ ?_
  have w1:IntKind.i64.wrap ((i:Int)+1)=((i+1:Nat):Int):=by rw[wrap_i64 (by omega) (by omega)];rfl
  cases hx:L[i]? with
  |none=>
   have h2:=List.getElem?_eq_none_iff.1 hx
   have h1:=BA h2
   rw[List.drop_eq_nil_of_le h2]at hJ
   have hJ':es=fI L:=hJ
   subst hJ'
   simp only[↓eB,seval,go_sem,xt,↓A1,OT,Jv,D9,DA,Option.isSome_some,Option.isSome_none,h1,hL,M4]
   try simp only[A3,A4]
   repeat' first|exact ck|with_reducible apply And.intro|intro _
   all_goals first|exact trivial|(rename_i h;first|exact oI h|exact nah h)|(rename_i _ h _ g;exact sL h g)|decide|omega|(refine A0 [] ?_;simp only[↓eB,seval,go_sem,bne,Td,Te,A6,xt,↓A1,hL])
  |some s=>
   have hlt:=(List.getElem?_eq_some_iff.1 hx).1
   have h1:=B9 hlt
   have hs:L.getD i []=s:=by simp[List.getD,hx]
   have hb:(0:Int)≤(i:Int)∧(i:Int)<((⟨⟨L,pa⟩,pfs⟩:Pg).g.c.length:Int):=by rw[hlen];omega
   rw[Bn hx,Sb]at hJ
   cases hm:B0 es s with
   |some j=>
    rw[hm]at hJ
    have hJ2:GB (L.drop (i+1)) (i+1) es=fI L:=hJ
    simp only[↓eB,seval,go_sem,xt,↓A1,OT,Jv,D9,DA,Option.isSome_some,Option.isSome_none,h1,hL,hs,hm,w1]
    try simp only[A3,A4]
    repeat' first|exact ck|with_reducible apply And.intro|intro _
    all_goals try first|exact hb|exact hb.1|exact hb.2|(rename_i h;first|exact oI h|exact nah h)|(rename_i _ h _ g;exact sL h g)|decide|omega
    refine⟨(i+1,es),⟨hlt,hJ2⟩,by dsimp only;omega,A2 [] ?_⟩
    simp only[↓eB,seval,go_sem,xt,↓A1,Iv]
   |none=>
    rw[hm]at hJ
    have hJ2:GB (L.drop (i+1)) (i+1) (C8 es s (i:Int))=fI L:=hJ
    simp only[↓eB,seval,go_sem,xt,↓A1,OT,Jv,D9,DA,Option.isSome_some,Option.isSome_none,h1,hL,hs,hm,w1]
    try simp only[A3,A4]
    repeat' first|exact ck|with_reducible apply And.intro|intro _
    all_goals try first|exact hb|exact hb.1|exact hb.2|(rename_i h;first|exact oI h|exact nah h)|(rename_i _ h _ g;exact sL h g)|decide|omega
    refine⟨(i+1,C8 es s (i:Int)),⟨hlt,hJ2⟩,by dsimp only;omega,A2 [] ?_⟩
    simp only[↓eB,seval,go_sem,xt,↓A1,Iv]
abbrev VB (q:Int×Pg):Prop:=q.1=((q.2.g.a.map Gy.s).length:Int)∧(q.2.g.a.map Gy.s).length≤1000000
abbrev Tf (q:Int×Pg):SV:=.one (.d (.mp (mpI (fI (q.2.g.a.map Gy.s)))))
abbrev M_C3 (q:Int×Pg):List (Option ML):=[some (.vec zPg [pgR q.2])]
theorem bk:EB Try.prog 31 (DV 34 mPg).args (DV 34 mPg).mem VB (fun _=>false) Tf M_C3 (fun _=>mlO [none]):=by
 rintro ⟨n,pp⟩ w M I lab fz xs ⟨hc1,hc2⟩ hA hl hx
 dsimp only at hc1 hc2
 refine Cj Try.func31 rfl [.vec zPg [pgR pp]] w M I lab fz false [none] (M_C3 (n,pp)) [OU] [(9,[.fzm 9])] ((DV 34 mPg).args (n,pp)) (Tf (n,pp)) xs hA hl hx ?_ (jN rfl) (Nat.le_refl _) rfl OX ?_
 ·intro v hv k hk
  simp only[Jt,List.mem_cons,List.not_mem_nil,or_false]at hv
  rcases hv with rfl|rfl
  ·cases hk
  ·simp only[SV.names,C.names,List.flatMap_cons,List.flatMap_nil,append_nil,capN,mem_singleton]at hk
   subst hk;show 0<1;decide
 clear hx hl hA xs
 subst hc1
 simp only[Try.f31]
 obtain⟨L,hL⟩:∃L,pp.g.a.map Gy.s=L:=⟨_,rfl⟩
 have hlen:pp.g.a.length=L.length:=by rw[← hL];simp
 rw[hL]at hc2
 simp only[↓eB,seval,go_sem,xt,↓A1,OU,Jw,D9,DA,Option.isSome_some,Option.isSome_none,hL]
 refine Ac (Y:=Nat×List (List UInt8×Int)) (fun z=>z.1≤L.length∧GB (L.drop z.1) z.1 z.2=fI L)
  (fun z=>⟨[(1,true,.one (.fn 34 [.p 0 0 0])),(5,true,.one (.s 9)),(10,true,.one (.v (.int .i64 (L.length:Int)))),(11,true,.one (.v (.int .i64 (z.1:Int))))],[(0,.vec 0 zPg [pgR pp]),(9,.mp false (z.2.map fun p=>(p.1,[C.v (.int .i64 p.2)])))]⟩)
  (fun z=>L.length-z.1) (0,[]) ⟨Nat.zero_le _,rfl⟩ ?_ ?_
 ·refine A2 [] ?_;simp only[↓eB,seval,go_sem,xt,↓A1,M3]
 ·rintro ⟨i,es⟩ ⟨hi,hJ⟩
  dsimp only at hi hJ
  refine Aq [OU] [(9,[.fzm 9])] _ _ _ ?_
  have w1:IntKind.i64.wrap ((i:Int)+1)=((i+1:Nat):Int):=by rw[wrap_i64 (by omega) (by omega)];rfl
  cases hx:L[i]? with
  |none=>
   have h2:=List.getElem?_eq_none_iff.1 hx
   have h1:=BA h2
   rw[List.drop_eq_nil_of_le h2]at hJ
   have hJ':es=fI L:=hJ
   subst hJ'
   simp only[↓eB,seval,go_sem,xt,↓A1,OU,Jw,D9,DA,Option.isSome_some,Option.isSome_none,h1,hL,M4]
   try simp only[A3,A4]
   repeat' first|exact ck|with_reducible apply And.intro|intro _
   all_goals first|exact trivial|(rename_i h;first|exact oI h|exact nah h)|(rename_i _ h _ g;exact sL h g)|decide|omega|(refine A0 [] ?_;simp only[↓eB,seval,go_sem,bne,Tf,M_C3,A6,xt,↓A1,hL])
  |some s=>
   have hlt:=(List.getElem?_eq_some_iff.1 hx).1
   have h1:=B9 hlt
   have hs:L.getD i []=s:=by simp[List.getD,hx]
   have hb:(0:Int)≤(i:Int)∧(i:Int)<(pp.g.a.length:Int):=by rw[hlen];omega
   rw[Bn hx,Sb]at hJ
   cases hm:B0 es s with
   |some j=>
    rw[hm]at hJ
    have hJ2:GB (L.drop (i+1)) (i+1) es=fI L:=hJ
    simp only[↓eB,seval,go_sem,xt,↓A1,OU,Jw,D9,DA,Option.isSome_some,Option.isSome_none,h1,hL,hs,hm,w1]
    try simp only[A3,A4]
    repeat' first|exact ck|with_reducible apply And.intro|intro _
    all_goals try first|exact hb|exact hb.1|exact hb.2|(rename_i h;first|exact oI h|exact nah h)|(rename_i _ h _ g;exact sL h g)|decide|omega
    refine⟨(i+1,es),⟨hlt,hJ2⟩,by dsimp only;omega,A2 [] ?_⟩
    simp only[↓eB,seval,go_sem,xt,↓A1,Iv]
   |none=>
    rw[hm]at hJ
    have hJ2:GB (L.drop (i+1)) (i+1) (C8 es s (i:Int))=fI L:=hJ
    simp only[↓eB,seval,go_sem,xt,↓A1,OU,Jw,D9,DA,Option.isSome_some,Option.isSome_none,h1,hL,hs,hm,w1]
    try simp only[A3,A4]
    repeat' first|exact ck|with_reducible apply And.intro|intro _
    all_goals try first|exact hb|exact hb.1|exact hb.2|(rename_i h;first|exact oI h|exact nah h)|(rename_i _ h _ g;exact sL h g)|decide|omega
    refine⟨(i+1,C8 es s (i:Int)),⟨hlt,hJ2⟩,by dsimp only;omega,A2 [] ?_⟩
    simp only[↓eB,seval,go_sem,xt,↓A1,Iv]
abbrev Z7 (q:Int×Sta):Prop:=q.1=((q.2.cs.map Nb.s).length:Int)∧(q.2.cs.map Nb.s).length≤1000000
abbrev Tg (q:Int×Sta):SV:=.one (.d (.mp (mpI (fI (q.2.cs.map Nb.s)))))
abbrev M_S1 (q:Int×Sta):List (Option ML):=[some (.vec zSta [stR q.2])]
theorem bm:EB Try.prog 31 (DV 46 mSt).args (DV 46 mSt).mem Z7 (fun _=>false) Tg M_S1 (fun _=>mlO [none]):=by
 rintro ⟨n,pp⟩ w M I lab fz xs ⟨hc1,hc2⟩ hA hl hx
 dsimp only at hc1 hc2
 refine Cj Try.func31 rfl [.vec zSta [stR pp]] w M I lab fz false [none] (M_S1 (n,pp)) [OV] [(9,[.fzm 9])] ((DV 46 mSt).args (n,pp)) (Tg (n,pp)) xs hA hl hx ?_ (jN rfl) (Nat.le_refl _) rfl OX ?_
 ·intro v hv k hk
  simp only[Jt,List.mem_cons,List.not_mem_nil,or_false]at hv
  rcases hv with rfl|rfl
  ·cases hk
  ·simp only[SV.names,C.names,List.flatMap_cons,List.flatMap_nil,append_nil,capN,mem_singleton]at hk
   subst hk;show 0<1;decide
 clear hx hl hA xs
 subst hc1
 simp only[Try.f31]
 obtain⟨L,hL⟩:∃L,pp.cs.map Nb.s=L:=⟨_,rfl⟩
 have hlen:pp.cs.length=L.length:=by rw[← hL];simp
 rw[hL]at hc2
 simp only[↓eB,seval,go_sem,xt,↓A1,OV,Jx,D9,DA,Option.isSome_some,Option.isSome_none,hL]
 refine Ac (Y:=Nat×List (List UInt8×Int)) (fun z=>z.1≤L.length∧GB (L.drop z.1) z.1 z.2=fI L)
  (fun z=>⟨[(1,true,.one (.fn 46 [.p 0 0 0])),(5,true,.one (.s 9)),(10,true,.one (.v (.int .i64 (L.length:Int)))),(11,true,.one (.v (.int .i64 (z.1:Int))))],[(0,.vec 0 zSta [stR pp]),(9,.mp false (z.2.map fun p=>(p.1,[C.v (.int .i64 p.2)])))]⟩)
  (fun z=>L.length-z.1) (0,[]) ⟨Nat.zero_le _,rfl⟩ ?_ ?_
 ·refine A2 [] ?_;simp only[↓eB,seval,go_sem,xt,↓A1,M3]
 ·rintro ⟨i,es⟩ ⟨hi,hJ⟩
  dsimp only at hi hJ
  refine Aq [OV] [(9,[.fzm 9])] _ _ _ ?_
  have w1:IntKind.i64.wrap ((i:Int)+1)=((i+1:Nat):Int):=by rw[wrap_i64 (by omega) (by omega)];rfl
  cases hx:L[i]? with
  |none=>
   have h2:=List.getElem?_eq_none_iff.1 hx
   have h1:=BA h2
   rw[List.drop_eq_nil_of_le h2]at hJ
   have hJ':es=fI L:=hJ
   subst hJ'
   simp only[↓eB,seval,go_sem,xt,↓A1,OV,Jx,D9,DA,Option.isSome_some,Option.isSome_none,h1,hL,M4]
   try simp only[A3,A4]
   repeat' first|exact ck|with_reducible apply And.intro|intro _
   all_goals first|exact trivial|(rename_i h;first|exact oI h|exact nah h)|(rename_i _ h _ g;exact sL h g)|decide|omega|(refine A0 [] ?_;simp only[↓eB,seval,go_sem,bne,Tg,M_S1,A6,xt,↓A1,hL])
  |some s=>
   have hlt:=(List.getElem?_eq_some_iff.1 hx).1
   have h1:=B9 hlt
   have hs:L.getD i []=s:=by simp[List.getD,hx]
   have hb:(0:Int)≤(i:Int)∧(i:Int)<(pp.cs.length:Int):=by rw[hlen];omega
   rw[Bn hx,Sb]at hJ
   cases hm:B0 es s with
   |some j=>
    rw[hm]at hJ
    have hJ2:GB (L.drop (i+1)) (i+1) es=fI L:=hJ
    simp only[↓eB,seval,go_sem,xt,↓A1,OV,Jx,D9,DA,Option.isSome_some,Option.isSome_none,h1,hL,hs,hm,w1]
    try simp only[A3,A4]
    repeat' first|exact ck|with_reducible apply And.intro|intro _
    all_goals try first|exact hb|exact hb.1|exact hb.2|(rename_i h;first|exact oI h|exact nah h)|(rename_i _ h _ g;exact sL h g)|decide|omega
    refine⟨(i+1,es),⟨hlt,hJ2⟩,by dsimp only;omega,A2 [] ?_⟩
    simp only[↓eB,seval,go_sem,xt,↓A1,Iv]
   |none=>
    rw[hm]at hJ
    have hJ2:GB (L.drop (i+1)) (i+1) (C8 es s (i:Int))=fI L:=hJ
    simp only[↓eB,seval,go_sem,xt,↓A1,OV,Jx,D9,DA,Option.isSome_some,Option.isSome_none,h1,hL,hs,hm,w1]
    try simp only[A3,A4]
    repeat' first|exact ck|with_reducible apply And.intro|intro _
    all_goals try first|exact hb|exact hb.1|exact hb.2|(rename_i h;first|exact oI h|exact nah h)|(rename_i _ h _ g;exact sL h g)|decide|omega
    refine⟨(i+1,C8 es s (i:Int)),⟨hlt,hJ2⟩,by dsimp only;omega,A2 [] ?_⟩
    simp only[↓eB,seval,go_sem,xt,↓A1,Iv]
abbrev Z8 (q:Int×Sta):Prop:=q.1=((q.2.ar.map Na.s).length:Int)∧(q.2.ar.map Na.s).length≤1000000
abbrev Th (q:Int×Sta):SV:=.one (.d (.mp (mpI (fI (q.2.ar.map Na.s)))))
abbrev M_S2 (q:Int×Sta):List (Option ML):=[some (.vec zSta [stR q.2])]
theorem bn:EB Try.prog 31 (DV 47 mSt).args (DV 47 mSt).mem Z8 (fun _=>false) Th M_S2 (fun _=>mlO [none]):=by
 rintro ⟨n,pp⟩ w M I lab fz xs ⟨hc1,hc2⟩ hA hl hx
 dsimp only at hc1 hc2
 refine Cj Try.func31 rfl [.vec zSta [stR pp]] w M I lab fz false [none] (M_S2 (n,pp)) [OW] [(9,[.fzm 9])] ((DV 47 mSt).args (n,pp)) (Th (n,pp)) xs hA hl hx ?_ (jN rfl) (Nat.le_refl _) rfl OX ?_
 ·intro v hv k hk
  simp only[Jt,List.mem_cons,List.not_mem_nil,or_false]at hv
  rcases hv with rfl|rfl
  ·cases hk
  ·simp only[SV.names,C.names,List.flatMap_cons,List.flatMap_nil,append_nil,capN,mem_singleton]at hk
   subst hk;show 0<1;decide
 clear hx hl hA xs
 subst hc1
 simp only[Try.f31]
 obtain⟨L,hL⟩:∃L,pp.ar.map Na.s=L:=⟨_,rfl⟩
 have hlen:pp.ar.length=L.length:=by rw[← hL];simp
 rw[hL]at hc2
 simp only[↓eB,seval,go_sem,xt,↓A1,OW,Jy,D9,DA,Option.isSome_some,Option.isSome_none,hL]
 refine Ac (Y:=Nat×List (List UInt8×Int)) (fun z=>z.1≤L.length∧GB (L.drop z.1) z.1 z.2=fI L)
  (fun z=>⟨[(1,true,.one (.fn 47 [.p 0 0 0])),(5,true,.one (.s 9)),(10,true,.one (.v (.int .i64 (L.length:Int)))),(11,true,.one (.v (.int .i64 (z.1:Int))))],[(0,.vec 0 zSta [stR pp]),(9,.mp false (z.2.map fun p=>(p.1,[C.v (.int .i64 p.2)])))]⟩)
  (fun z=>L.length-z.1) (0,[]) ⟨Nat.zero_le _,rfl⟩ ?_ ?_
 ·refine A2 [] ?_;simp only[↓eB,seval,go_sem,xt,↓A1,M3]
 ·rintro ⟨i,es⟩ ⟨hi,hJ⟩
  dsimp only at hi hJ
  refine Aq [OW] [(9,[.fzm 9])] _ _ _ ?_
  have w1:IntKind.i64.wrap ((i:Int)+1)=((i+1:Nat):Int):=by rw[wrap_i64 (by omega) (by omega)];rfl
  cases hx:L[i]? with
  |none=>
   have h2:=List.getElem?_eq_none_iff.1 hx
   have h1:=BA h2
   rw[List.drop_eq_nil_of_le h2]at hJ
   have hJ':es=fI L:=hJ
   subst hJ'
   simp only[↓eB,seval,go_sem,xt,↓A1,OW,Jy,D9,DA,Option.isSome_some,Option.isSome_none,h1,hL,M4]
   try simp only[A3,A4]
   repeat' first|exact ck|with_reducible apply And.intro|intro _
   all_goals first|exact trivial|(rename_i h;first|exact oI h|exact nah h)|(rename_i _ h _ g;exact sL h g)|decide|omega|(refine A0 [] ?_;simp only[↓eB,seval,go_sem,bne,Th,M_S2,A6,xt,↓A1,hL])
  |some s=>
   have hlt:=(List.getElem?_eq_some_iff.1 hx).1
   have h1:=B9 hlt
   have hs:L.getD i []=s:=by simp[List.getD,hx]
   have hb:(0:Int)≤(i:Int)∧(i:Int)<(pp.ar.length:Int):=by rw[hlen];omega
   rw[Bn hx,Sb]at hJ
   cases hm:B0 es s with
   |some j=>
    rw[hm]at hJ
    have hJ2:GB (L.drop (i+1)) (i+1) es=fI L:=hJ
    simp only[↓eB,seval,go_sem,xt,↓A1,OW,Jy,D9,DA,Option.isSome_some,Option.isSome_none,h1,hL,hs,hm,w1]
    try simp only[A3,A4]
    repeat' first|exact ck|with_reducible apply And.intro|intro _
    all_goals try first|exact hb|exact hb.1|exact hb.2|(rename_i h;first|exact oI h|exact nah h)|(rename_i _ h _ g;exact sL h g)|decide|omega
    refine⟨(i+1,es),⟨hlt,hJ2⟩,by dsimp only;omega,A2 [] ?_⟩
    simp only[↓eB,seval,go_sem,xt,↓A1,Iv]
   |none=>
    rw[hm]at hJ
    have hJ2:GB (L.drop (i+1)) (i+1) (C8 es s (i:Int))=fI L:=hJ
    simp only[↓eB,seval,go_sem,xt,↓A1,OW,Jy,D9,DA,Option.isSome_some,Option.isSome_none,h1,hL,hs,hm,w1]
    try simp only[A3,A4]
    repeat' first|exact ck|with_reducible apply And.intro|intro _
    all_goals try first|exact hb|exact hb.1|exact hb.2|(rename_i h;first|exact oI h|exact nah h)|(rename_i _ h _ g;exact sL h g)|decide|omega
    refine⟨(i+1,C8 es s (i:Int)),⟨hlt,hJ2⟩,by dsimp only;omega,A2 [] ?_⟩
    simp only[↓eB,seval,go_sem,xt,↓A1,Iv]
end Go.Proofs.Ytjnnmindcbgjhaa
