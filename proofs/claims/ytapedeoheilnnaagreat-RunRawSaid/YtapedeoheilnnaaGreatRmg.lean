/- first, with each of its closures, walked. No conditions but those in each statement. -/
import Derived.Test.YtapedeoheilnnaaGreatRmf
set_option linter.all false
set_option maxRecDepth 20000
set_option maxHeartbeats 16000000
open Option (isSome_some isSome_none)
open List (append_nil mem_singleton mem_cons not_mem_nil flatMap_cons flatMap_nil drop_eq_nil_of_le)
namespace Go.Proofs.YtapedeoheilnnaaGreat
open Go Go.Sy Go.RowKit
theorem Vh{s:List UInt8}{r:List (List UInt8)}{i:Nat}{es:List (List UInt8×Int)}:GP (s::r) i es=GP r (i+1) (if (AD es s).isSome=true then es else B1 es s (i:Int)):=rfl
theorem NQ:(List.map (λp:List UInt8×Int=>(p.1,[C.v (.int .i64 p.2)])) [])=[]:=rfl
theorem QD:∀q,some q∈([none]:List (Option MV))->∀r∈q.2,∀c∈r,c.names=[]:=by intro q hq;simp at hq
theorem K6(es:List (List UInt8×Int)):List.flatMap (λp=>List.flatMap C.names p.2) (es.map λp=>(p.1,[C.v (.int .i64 p.2)]))=[]:=List.flatMap_eq_nil_iff.2 λp hp=>by
 obtain⟨a,_,rfl⟩:=List.mem_map.1 hp
 rfl
theorem NR:∀es:List (List UInt8×Int),RR (es.map λp=>(p.1,[C.v (.int .i64 p.2)]))=some (mpI es)
 |[]=>rfl
 |(k,i)::r=>by
  have:=NR r
  simp only[List.map_cons,RR,this];rfl
abbrev Z3(q:Int×Pg):Prop:=q.1=((q.2.fs.map Fn.name).length:Int)/\(q.2.fs.map Fn.name).length<=1000000
abbrev XH(q:Int×Pg):SV:=.one (.d (.mp (mpI (fI (q.2.fs.map Fn.name)))))
abbrev M_C1(q:Int×Pg):List (Option ML):=[some (.vec zPg [pgR q.2])]
attribute [local go_sem] Fa.mem Fa.memO Fa.pan ML.ch ML.ren Sm.ar Sm.cd Sm.e Sm.el Sm.f Sm.k Sm.no Sm.th Sm.x Sm.y LF Vf Vg HA H9 HB Dd CS CR CA CP CQ L9 L8 DO DN chL J0 FG FF H7 fcN JC Ve Z2 frC J1 H8 lmH lmO VY R0 VX Vd Vb Vc J2 IC DJ Cg Ci nmX AB AA pgR De Cx Cy EK EJ E1 EH rnC Fl AN Cf DP Cr stR CO EE vrQ J3 JD
theorem jF:DY Tryz.prog 27 (Ej 28 mPg).args (Ej 28 mPg).mem Z3 (λ_=>false) XH M_C1 (λ_=>mlO [none]):=by
 rintro ⟨n,pp⟩ w M I lab fz xs ⟨hc1,hc2⟩ hA hl hx
 dsimp only at hc1 hc2
 refine Bn Tryz.func27 rfl [.vec zPg [pgR pp]] w M I lab fz false [none] (M_C1 (n,pp)) [Q4] [(9,[.fzm 9])] ((Ej 28 mPg).args (n,pp)) (XH (n,pp)) xs hA hl hx ?_ (jN rfl) (Nat.le_refl _) rfl QD ?_
 .intro v hv k hk
  simp only[LF,mem_cons,not_mem_nil,or_false]at hv
  rcases hv with rfl|rfl
  .cases hk
  simp only[SV.names,C.names,flatMap_cons,flatMap_nil,append_nil,capN,mem_singleton]at hk
  subst hk;show 0<1;decide
 clear hx hl hA xs
 subst hc1
 simp only[Tryz.f27]
 obtain⟨L,hL⟩:∃L,pp.fs.map Fn.name=L:=⟨_,rfl⟩
 have hlen:pp.fs.length=L.length:=by rw[<- hL];simp
 rw[hL]at hc2
 simp only[seval,go_sem,xt,↓A0,Q4,O0,EO,EP,isSome_some,isSome_none,hL]
 refine AK (Y:=Nat×List (List UInt8×Int)) (λz=>z.1<=L.length/\GP (L.drop z.1) z.1 z.2=fI L)
  (λz=>⟨[(1,true,.one (.fn 28 [.p 0 0 0])),(5,true,.one (.s 9)),(10,true,.one (.v (.int .i64 (L.length:Int)))),(11,true,.one (.v (.int .i64 (z.1:Int))))],[(0,.vec 0 zPg [pgR pp]),(9,.mp false (z.2.map λp=>(p.1,[C.v (.int .i64 p.2)])))]⟩)
  (λz=>L.length-z.1) (0,[]) ⟨Nat.zero_le _,rfl⟩ ?_ ?_
 .refine A4 [] ?_;simp only[seval,go_sem,xt,↓A0,NQ]
 rintro ⟨i,es⟩ ⟨hi,hJ⟩
 dsimp only at hi hJ
 refine AZ [Q4] [(9,[.fzm 9])] _ _ _ ?_
 have w1:IntKind.i64.wrap ((i:Int)+1)=((i+1:Nat):Int):=by rw[wrap_i64 (by omega) (by omega)];rfl
 cases hx:L[i]? with
 |none=>
  have h2:=List.getElem?_eq_none_iff.1 hx
  have h1:=B9 h2
  rw[drop_eq_nil_of_le h2]at hJ
  have hJ':es=fI L:=hJ
  subst hJ'
  simp only[seval,go_sem,xt,↓A0,Q4,O0,EO,EP,isSome_some,isSome_none,h1,hL,NR]
  try simp only[A2,A3]
  repeat' first|exact ck|with_reducible apply And.intro|intro _
  all_goals first|exact trivial|exact KZ|(refine A1 [] ?_;simp only[seval,go_sem,bne,XH,M_C1,A5,xt,↓A0,hL])
 |some s=>
 have hlt:=(List.getElem?_eq_some_iff.1 hx).1
 have h1:=B8 hlt
 have hs:L.getD i []=s:=by simp[List.getD,hx]
 have hb:(0:Int)<=(i:Int)/\(i:Int)<(pp.fs.length:Int):=by rw[hlen];omega
 rw[BJ hx,Vh]at hJ
 cases hm:AD es s with
 |some j=>
  rw[hm]at hJ
  have hJ2:GP (L.drop (i+1)) (i+1) es=fI L:=hJ
  simp only[seval,go_sem,xt,↓A0,Q4,O0,EO,EP,isSome_some,isSome_none,h1,hL,hs,hm,w1]
  try simp only[A2,A3]
  repeat' first|exact ck|with_reducible apply And.intro|intro _
  all_goals try first|exact hb|exact hb.1|exact hb.2|exact KZ
  refine⟨(i+1,es),⟨hlt,hJ2⟩,by dsimp only;omega,A4 [] ?_⟩
  simp only[seval,go_sem,xt,↓A0,K6]
 |none=>
 rw[hm]at hJ
 have hJ2:GP (L.drop (i+1)) (i+1) (B1 es s (i:Int))=fI L:=hJ
 simp only[seval,go_sem,xt,↓A0,Q4,O0,EO,EP,isSome_some,isSome_none,h1,hL,hs,hm,w1]
 try simp only[A2,A3]
 repeat' first|exact ck|with_reducible apply And.intro|intro _
 all_goals try first|exact hb|exact hb.1|exact hb.2|exact KZ
 refine⟨(i+1,B1 es s (i:Int)),⟨hlt,hJ2⟩,by dsimp only;omega,A4 [] ?_⟩
 simp only[seval,go_sem,xt,↓A0,K6]
abbrev Z4(q:Int×Pg):Prop:=q.1=((q.2.g.c).length:Int)/\(q.2.g.c).length<=1000000
abbrev XI(q:Int×Pg):SV:=.one (.d (.mp (mpI (fI (q.2.g.c)))))
abbrev XJ(q:Int×Pg):List (Option ML):=[some (.vec zPg [pgR q.2])]
theorem jG:DY Tryz.prog 27 (Ej 29 mPg).args (Ej 29 mPg).mem Z4 (λ_=>false) XI XJ (λ_=>mlO [none]):=by
 rintro ⟨n,⟨⟨L,pa⟩,pfs⟩⟩ w M I lab fz xs ⟨hc1,hc2⟩ hA hl hx
 dsimp only at hc1 hc2
 refine Bn Tryz.func27 rfl [.vec zPg [pgR (⟨⟨L,pa⟩,pfs⟩:Pg)]] w M I lab fz false [none] (XJ (n,(⟨⟨L,pa⟩,pfs⟩:Pg))) [Q6] [(9,[.fzm 9])] ((Ej 29 mPg).args (n,(⟨⟨L,pa⟩,pfs⟩:Pg))) (XI (n,(⟨⟨L,pa⟩,pfs⟩:Pg))) xs hA hl hx ?_ (jN rfl) (Nat.le_refl _) rfl QD ?_
 .intro v hv k hk
  simp only[LF,mem_cons,not_mem_nil,or_false]at hv
  rcases hv with rfl|rfl
  .cases hk
  simp only[SV.names,C.names,flatMap_cons,flatMap_nil,append_nil,capN,mem_singleton]at hk
  subst hk;show 0<1;decide
 clear hx hl hA xs
 subst hc1
 simp only[Tryz.f27]
 have hL:(⟨⟨L,pa⟩,pfs⟩:Pg).g.c=L:=rfl
 have hlen:(⟨⟨L,pa⟩,pfs⟩:Pg).g.c.length=L.length:=rfl
 simp only[seval,go_sem,xt,↓A0,Q6,O1,EO,EP,isSome_some,isSome_none,hL]
 refine AK (Y:=Nat×List (List UInt8×Int)) (λz=>z.1<=L.length/\GP (L.drop z.1) z.1 z.2=fI L)
  (λz=>⟨[(1,true,.one (.fn 29 [.p 0 0 0])),(5,true,.one (.s 9)),(10,true,.one (.v (.int .i64 (L.length:Int)))),(11,true,.one (.v (.int .i64 (z.1:Int))))],[(0,.vec 0 zPg [pgR (⟨⟨L,pa⟩,pfs⟩:Pg)]),(9,.mp false (z.2.map λp=>(p.1,[C.v (.int .i64 p.2)])))]⟩)
  (λz=>L.length-z.1) (0,[]) ⟨Nat.zero_le _,rfl⟩ ?_ ?_
 .refine A4 [] ?_;simp only[seval,go_sem,xt,↓A0,NQ]
 rintro ⟨i,es⟩ ⟨hi,hJ⟩
 dsimp only at hi hJ
 refine AZ [Q6] [(9,[.fzm 9])] _ _ _ ?_
 have w1:IntKind.i64.wrap ((i:Int)+1)=((i+1:Nat):Int):=by rw[wrap_i64 (by omega) (by omega)];rfl
 cases hx:L[i]? with
 |none=>
  have h2:=List.getElem?_eq_none_iff.1 hx
  have h1:=B9 h2
  rw[drop_eq_nil_of_le h2]at hJ
  have hJ':es=fI L:=hJ
  subst hJ'
  simp only[seval,go_sem,xt,↓A0,Q6,O1,EO,EP,isSome_some,isSome_none,h1,hL,NR]
  try simp only[A2,A3]
  repeat' first|exact ck|with_reducible apply And.intro|intro _
  all_goals first|exact trivial|exact KZ|(refine A1 [] ?_;simp only[seval,go_sem,bne,XI,XJ,A5,xt,↓A0,hL])
 |some s=>
 have hlt:=(List.getElem?_eq_some_iff.1 hx).1
 have h1:=B8 hlt
 have hs:L.getD i []=s:=by simp[List.getD,hx]
 have hb:(0:Int)<=(i:Int)/\(i:Int)<((⟨⟨L,pa⟩,pfs⟩:Pg).g.c.length:Int):=by rw[hlen];omega
 rw[BJ hx,Vh]at hJ
 cases hm:AD es s with
 |some j=>
  rw[hm]at hJ
  have hJ2:GP (L.drop (i+1)) (i+1) es=fI L:=hJ
  simp only[seval,go_sem,xt,↓A0,Q6,O1,EO,EP,isSome_some,isSome_none,h1,hL,hs,hm,w1]
  try simp only[A2,A3]
  repeat' first|exact ck|with_reducible apply And.intro|intro _
  all_goals try first|exact hb|exact hb.1|exact hb.2|exact KZ
  refine⟨(i+1,es),⟨hlt,hJ2⟩,by dsimp only;omega,A4 [] ?_⟩
  simp only[seval,go_sem,xt,↓A0,K6]
 |none=>
 rw[hm]at hJ
 have hJ2:GP (L.drop (i+1)) (i+1) (B1 es s (i:Int))=fI L:=hJ
 simp only[seval,go_sem,xt,↓A0,Q6,O1,EO,EP,isSome_some,isSome_none,h1,hL,hs,hm,w1]
 try simp only[A2,A3]
 repeat' first|exact ck|with_reducible apply And.intro|intro _
 all_goals try first|exact hb|exact hb.1|exact hb.2|exact KZ
 refine⟨(i+1,B1 es s (i:Int)),⟨hlt,hJ2⟩,by dsimp only;omega,A4 [] ?_⟩
 simp only[seval,go_sem,xt,↓A0,K6]
abbrev Z5(q:Int×Pg):Prop:=q.1=((q.2.g.a.map Gy.s).length:Int)/\(q.2.g.a.map Gy.s).length<=1000000
abbrev XK(q:Int×Pg):SV:=.one (.d (.mp (mpI (fI (q.2.g.a.map Gy.s)))))
abbrev M_C3(q:Int×Pg):List (Option ML):=[some (.vec zPg [pgR q.2])]
theorem jH:DY Tryz.prog 27 (Ej 30 mPg).args (Ej 30 mPg).mem Z5 (λ_=>false) XK M_C3 (λ_=>mlO [none]):=by
 rintro ⟨n,pp⟩ w M I lab fz xs ⟨hc1,hc2⟩ hA hl hx
 dsimp only at hc1 hc2
 refine Bn Tryz.func27 rfl [.vec zPg [pgR pp]] w M I lab fz false [none] (M_C3 (n,pp)) [Q8] [(9,[.fzm 9])] ((Ej 30 mPg).args (n,pp)) (XK (n,pp)) xs hA hl hx ?_ (jN rfl) (Nat.le_refl _) rfl QD ?_
 .intro v hv k hk
  simp only[LF,mem_cons,not_mem_nil,or_false]at hv
  rcases hv with rfl|rfl
  .cases hk
  simp only[SV.names,C.names,flatMap_cons,flatMap_nil,append_nil,capN,mem_singleton]at hk
  subst hk;show 0<1;decide
 clear hx hl hA xs
 subst hc1
 simp only[Tryz.f27]
 obtain⟨L,hL⟩:∃L,pp.g.a.map Gy.s=L:=⟨_,rfl⟩
 have hlen:pp.g.a.length=L.length:=by rw[<- hL];simp
 rw[hL]at hc2
 simp only[seval,go_sem,xt,↓A0,Q8,O2,EO,EP,isSome_some,isSome_none,hL]
 refine AK (Y:=Nat×List (List UInt8×Int)) (λz=>z.1<=L.length/\GP (L.drop z.1) z.1 z.2=fI L)
  (λz=>⟨[(1,true,.one (.fn 30 [.p 0 0 0])),(5,true,.one (.s 9)),(10,true,.one (.v (.int .i64 (L.length:Int)))),(11,true,.one (.v (.int .i64 (z.1:Int))))],[(0,.vec 0 zPg [pgR pp]),(9,.mp false (z.2.map λp=>(p.1,[C.v (.int .i64 p.2)])))]⟩)
  (λz=>L.length-z.1) (0,[]) ⟨Nat.zero_le _,rfl⟩ ?_ ?_
 .refine A4 [] ?_;simp only[seval,go_sem,xt,↓A0,NQ]
 rintro ⟨i,es⟩ ⟨hi,hJ⟩
 dsimp only at hi hJ
 refine AZ [Q8] [(9,[.fzm 9])] _ _ _ ?_
 have w1:IntKind.i64.wrap ((i:Int)+1)=((i+1:Nat):Int):=by rw[wrap_i64 (by omega) (by omega)];rfl
 cases hx:L[i]? with
 |none=>
  have h2:=List.getElem?_eq_none_iff.1 hx
  have h1:=B9 h2
  rw[drop_eq_nil_of_le h2]at hJ
  have hJ':es=fI L:=hJ
  subst hJ'
  simp only[seval,go_sem,xt,↓A0,Q8,O2,EO,EP,isSome_some,isSome_none,h1,hL,NR]
  try simp only[A2,A3]
  repeat' first|exact ck|with_reducible apply And.intro|intro _
  all_goals first|exact trivial|exact KZ|(refine A1 [] ?_;simp only[seval,go_sem,bne,XK,M_C3,A5,xt,↓A0,hL])
 |some s=>
 have hlt:=(List.getElem?_eq_some_iff.1 hx).1
 have h1:=B8 hlt
 have hs:L.getD i []=s:=by simp[List.getD,hx]
 have hb:(0:Int)<=(i:Int)/\(i:Int)<(pp.g.a.length:Int):=by rw[hlen];omega
 rw[BJ hx,Vh]at hJ
 cases hm:AD es s with
 |some j=>
  rw[hm]at hJ
  have hJ2:GP (L.drop (i+1)) (i+1) es=fI L:=hJ
  simp only[seval,go_sem,xt,↓A0,Q8,O2,EO,EP,isSome_some,isSome_none,h1,hL,hs,hm,w1]
  try simp only[A2,A3]
  repeat' first|exact ck|with_reducible apply And.intro|intro _
  all_goals try first|exact hb|exact hb.1|exact hb.2|exact KZ
  refine⟨(i+1,es),⟨hlt,hJ2⟩,by dsimp only;omega,A4 [] ?_⟩
  simp only[seval,go_sem,xt,↓A0,K6]
 |none=>
 rw[hm]at hJ
 have hJ2:GP (L.drop (i+1)) (i+1) (B1 es s (i:Int))=fI L:=hJ
 simp only[seval,go_sem,xt,↓A0,Q8,O2,EO,EP,isSome_some,isSome_none,h1,hL,hs,hm,w1]
 try simp only[A2,A3]
 repeat' first|exact ck|with_reducible apply And.intro|intro _
 all_goals try first|exact hb|exact hb.1|exact hb.2|exact KZ
 refine⟨(i+1,B1 es s (i:Int)),⟨hlt,hJ2⟩,by dsimp only;omega,A4 [] ?_⟩
 simp only[seval,go_sem,xt,↓A0,K6]
abbrev fJ(q:Int×Sta):Prop:=q.1=((q.2.cs.map Nb.s).length:Int)/\(q.2.cs.map Nb.s).length<=1000000
abbrev XL(q:Int×Sta):SV:=.one (.d (.mp (mpI (fI (q.2.cs.map Nb.s)))))
abbrev M_S1(q:Int×Sta):List (Option ML):=[some (.vec zSta [stR q.2])]
theorem jI:DY Tryz.prog 27 (Ej 46 mSt).args (Ej 46 mSt).mem fJ (λ_=>false) XL M_S1 (λ_=>mlO [none]):=by
 rintro ⟨n,pp⟩ w M I lab fz xs ⟨hc1,hc2⟩ hA hl hx
 dsimp only at hc1 hc2
 refine Bn Tryz.func27 rfl [.vec zSta [stR pp]] w M I lab fz false [none] (M_S1 (n,pp)) [QA] [(9,[.fzm 9])] ((Ej 46 mSt).args (n,pp)) (XL (n,pp)) xs hA hl hx ?_ (jN rfl) (Nat.le_refl _) rfl QD ?_
 .intro v hv k hk
  simp only[LF,mem_cons,not_mem_nil,or_false]at hv
  rcases hv with rfl|rfl
  .cases hk
  simp only[SV.names,C.names,flatMap_cons,flatMap_nil,append_nil,capN,mem_singleton]at hk
  subst hk;show 0<1;decide
 clear hx hl hA xs
 subst hc1
 simp only[Tryz.f27]
 obtain⟨L,hL⟩:∃L,pp.cs.map Nb.s=L:=⟨_,rfl⟩
 have hlen:pp.cs.length=L.length:=by rw[<- hL];simp
 rw[hL]at hc2
 simp only[seval,go_sem,xt,↓A0,QA,O3,EO,EP,isSome_some,isSome_none,hL]
 refine AK (Y:=Nat×List (List UInt8×Int)) (λz=>z.1<=L.length/\GP (L.drop z.1) z.1 z.2=fI L)
  (λz=>⟨[(1,true,.one (.fn 46 [.p 0 0 0])),(5,true,.one (.s 9)),(10,true,.one (.v (.int .i64 (L.length:Int)))),(11,true,.one (.v (.int .i64 (z.1:Int))))],[(0,.vec 0 zSta [stR pp]),(9,.mp false (z.2.map λp=>(p.1,[C.v (.int .i64 p.2)])))]⟩)
  (λz=>L.length-z.1) (0,[]) ⟨Nat.zero_le _,rfl⟩ ?_ ?_
 .refine A4 [] ?_;simp only[seval,go_sem,xt,↓A0,NQ]
 rintro ⟨i,es⟩ ⟨hi,hJ⟩
 dsimp only at hi hJ
 refine AZ [QA] [(9,[.fzm 9])] _ _ _ ?_
 have w1:IntKind.i64.wrap ((i:Int)+1)=((i+1:Nat):Int):=by rw[wrap_i64 (by omega) (by omega)];rfl
 cases hx:L[i]? with
 |none=>
  have h2:=List.getElem?_eq_none_iff.1 hx
  have h1:=B9 h2
  rw[drop_eq_nil_of_le h2]at hJ
  have hJ':es=fI L:=hJ
  subst hJ'
  simp only[seval,go_sem,xt,↓A0,QA,O3,EO,EP,isSome_some,isSome_none,h1,hL,NR]
  try simp only[A2,A3]
  repeat' first|exact ck|with_reducible apply And.intro|intro _
  all_goals first|exact trivial|exact KZ|(refine A1 [] ?_;simp only[seval,go_sem,bne,XL,M_S1,A5,xt,↓A0,hL])
 |some s=>
 have hlt:=(List.getElem?_eq_some_iff.1 hx).1
 have h1:=B8 hlt
 have hs:L.getD i []=s:=by simp[List.getD,hx]
 have hb:(0:Int)<=(i:Int)/\(i:Int)<(pp.cs.length:Int):=by rw[hlen];omega
 rw[BJ hx,Vh]at hJ
 cases hm:AD es s with
 |some j=>
  rw[hm]at hJ
  have hJ2:GP (L.drop (i+1)) (i+1) es=fI L:=hJ
  simp only[seval,go_sem,xt,↓A0,QA,O3,EO,EP,isSome_some,isSome_none,h1,hL,hs,hm,w1]
  try simp only[A2,A3]
  repeat' first|exact ck|with_reducible apply And.intro|intro _
  all_goals try first|exact hb|exact hb.1|exact hb.2|exact KZ
  refine⟨(i+1,es),⟨hlt,hJ2⟩,by dsimp only;omega,A4 [] ?_⟩
  simp only[seval,go_sem,xt,↓A0,K6]
 |none=>
 rw[hm]at hJ
 have hJ2:GP (L.drop (i+1)) (i+1) (B1 es s (i:Int))=fI L:=hJ
 simp only[seval,go_sem,xt,↓A0,QA,O3,EO,EP,isSome_some,isSome_none,h1,hL,hs,hm,w1]
 try simp only[A2,A3]
 repeat' first|exact ck|with_reducible apply And.intro|intro _
 all_goals try first|exact hb|exact hb.1|exact hb.2|exact KZ
 refine⟨(i+1,B1 es s (i:Int)),⟨hlt,hJ2⟩,by dsimp only;omega,A4 [] ?_⟩
 simp only[seval,go_sem,xt,↓A0,K6]
abbrev fK(q:Int×Sta):Prop:=q.1=((q.2.ar.map Na.s).length:Int)/\(q.2.ar.map Na.s).length<=1000000
abbrev XM(q:Int×Sta):SV:=.one (.d (.mp (mpI (fI (q.2.ar.map Na.s)))))
abbrev M_S2(q:Int×Sta):List (Option ML):=[some (.vec zSta [stR q.2])]
theorem jJ:DY Tryz.prog 27 (Ej 47 mSt).args (Ej 47 mSt).mem fK (λ_=>false) XM M_S2 (λ_=>mlO [none]):=by
 rintro ⟨n,pp⟩ w M I lab fz xs ⟨hc1,hc2⟩ hA hl hx
 dsimp only at hc1 hc2
 refine Bn Tryz.func27 rfl [.vec zSta [stR pp]] w M I lab fz false [none] (M_S2 (n,pp)) [QC] [(9,[.fzm 9])] ((Ej 47 mSt).args (n,pp)) (XM (n,pp)) xs hA hl hx ?_ (jN rfl) (Nat.le_refl _) rfl QD ?_
 .intro v hv k hk
  simp only[LF,mem_cons,not_mem_nil,or_false]at hv
  rcases hv with rfl|rfl
  .cases hk
  simp only[SV.names,C.names,flatMap_cons,flatMap_nil,append_nil,capN,mem_singleton]at hk
  subst hk;show 0<1;decide
 clear hx hl hA xs
 subst hc1
 simp only[Tryz.f27]
 obtain⟨L,hL⟩:∃L,pp.ar.map Na.s=L:=⟨_,rfl⟩
 have hlen:pp.ar.length=L.length:=by rw[<- hL];simp
 rw[hL]at hc2
 simp only[seval,go_sem,xt,↓A0,QC,O4,EO,EP,isSome_some,isSome_none,hL]
 refine AK (Y:=Nat×List (List UInt8×Int)) (λz=>z.1<=L.length/\GP (L.drop z.1) z.1 z.2=fI L)
  (λz=>⟨[(1,true,.one (.fn 47 [.p 0 0 0])),(5,true,.one (.s 9)),(10,true,.one (.v (.int .i64 (L.length:Int)))),(11,true,.one (.v (.int .i64 (z.1:Int))))],[(0,.vec 0 zSta [stR pp]),(9,.mp false (z.2.map λp=>(p.1,[C.v (.int .i64 p.2)])))]⟩)
  (λz=>L.length-z.1) (0,[]) ⟨Nat.zero_le _,rfl⟩ ?_ ?_
 .refine A4 [] ?_;simp only[seval,go_sem,xt,↓A0,NQ]
 rintro ⟨i,es⟩ ⟨hi,hJ⟩
 dsimp only at hi hJ
 refine AZ [QC] [(9,[.fzm 9])] _ _ _ ?_
 have w1:IntKind.i64.wrap ((i:Int)+1)=((i+1:Nat):Int):=by rw[wrap_i64 (by omega) (by omega)];rfl
 cases hx:L[i]? with
 |none=>
  have h2:=List.getElem?_eq_none_iff.1 hx
  have h1:=B9 h2
  rw[drop_eq_nil_of_le h2]at hJ
  have hJ':es=fI L:=hJ
  subst hJ'
  simp only[seval,go_sem,xt,↓A0,QC,O4,EO,EP,isSome_some,isSome_none,h1,hL,NR]
  try simp only[A2,A3]
  repeat' first|exact ck|with_reducible apply And.intro|intro _
  all_goals first|exact trivial|exact KZ|(refine A1 [] ?_;simp only[seval,go_sem,bne,XM,M_S2,A5,xt,↓A0,hL])
 |some s=>
 have hlt:=(List.getElem?_eq_some_iff.1 hx).1
 have h1:=B8 hlt
 have hs:L.getD i []=s:=by simp[List.getD,hx]
 have hb:(0:Int)<=(i:Int)/\(i:Int)<(pp.ar.length:Int):=by rw[hlen];omega
 rw[BJ hx,Vh]at hJ
 cases hm:AD es s with
 |some j=>
  rw[hm]at hJ
  have hJ2:GP (L.drop (i+1)) (i+1) es=fI L:=hJ
  simp only[seval,go_sem,xt,↓A0,QC,O4,EO,EP,isSome_some,isSome_none,h1,hL,hs,hm,w1]
  try simp only[A2,A3]
  repeat' first|exact ck|with_reducible apply And.intro|intro _
  all_goals try first|exact hb|exact hb.1|exact hb.2|exact KZ
  refine⟨(i+1,es),⟨hlt,hJ2⟩,by dsimp only;omega,A4 [] ?_⟩
  simp only[seval,go_sem,xt,↓A0,K6]
 |none=>
 rw[hm]at hJ
 have hJ2:GP (L.drop (i+1)) (i+1) (B1 es s (i:Int))=fI L:=hJ
 simp only[seval,go_sem,xt,↓A0,QC,O4,EO,EP,isSome_some,isSome_none,h1,hL,hs,hm,w1]
 try simp only[A2,A3]
 repeat' first|exact ck|with_reducible apply And.intro|intro _
 all_goals try first|exact hb|exact hb.1|exact hb.2|exact KZ
 refine⟨(i+1,B1 es s (i:Int)),⟨hlt,hJ2⟩,by dsimp only;omega,A4 [] ?_⟩
 simp only[seval,go_sem,xt,↓A0,K6]
end Go.Proofs.YtapedeoheilnnaaGreat
