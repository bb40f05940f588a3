/- The document's state of a program, walked. Conditions: lengths. -/
import Derived.Test.YtapedeoheilnnaaGreatRmn
import Derived.Test.YtapedeoheilnnaaGreatRm2
set_option linter.all false
set_option maxRecDepth 100000
set_option maxHeartbeats 16000000
open List (length_map)
namespace Go.Proofs.YtapedeoheilnnaaGreat
open Go Go.Sy Go.RowKit
theorem AT{P:Prop}(h:P:=by
 have e1:((k+1:Nat):Int)-1=(k:Int):=by omega
 have e2:decide ((0:Int)<=(k:Int))=true:=by simp
 have w4:IntKind.i64.wrap ((k:Int)-1)=(k:Int)-1:=wrap_i64 (by omega) (by omega)
 have hkl:(k:Int)<(sa.length:Int):=by omega
 have hq0:sa[k]?=some (sa.getD k ⟨[],[]⟩):=by rw[List.getD,List.getElem?_eq_getElem hk];rfl
 generalize sa.getD k ⟨[],[]⟩=q at hq0
 have hz:=W1 hq0
 have hd:lkA ys Z (sa.drop k)=if (q.s==ys)=true then cpL Z q.l else lkA ys Z (sa.drop (k+1)):=by rw[BF hq0];rfl
 obtain⟨qs,ql⟩:=q
 dsimp only at hd
 cases hq:(qs==ys) with
 |true=>
  rw[hq,if_pos rfl]at hd
  have hcp:=XX Z ql
  simp only[length_map]at hcp
  simp only[seval,go_sem,e1,e2,w4,hz,hq,hgz,Gy.r,hZc]
  refine⟨hkl,Bn (by kernel_rfl),⟨hjl,rfl⟩,⟨(by omega),(by omega),(by omega)⟩,hkl,⟨(by omega),(λq h=>by cases h;rfl),fk ql⟩,Bn (by kernel_rfl),k,Nat.le_of_lt hk,Nat.lt_succ_self k,BU (t:=⟨[(2,true,.one (.p 2 0 0)),(3,true,.one (.p 3 0 0)),(4,true,.one (.p 4 0 0)),(5,true,.one (.p 5 0 0)),(9,true,.one (.v (.int .i64 (j:Int)))),(10,true,.one (.p 10 0 0)),(11,true,.one (.v (.int .i64 ((k:Int)-1))))],
   [(2,Gb pc pa pf),(3,KB sc sa),(4,.vec 0 Fi [[.v (.slice none 0 0),.v (.slice none 0 0)]]),(5,.vec 0 Fi [[.s 1000,.s 1001]]),(1000,.vec 0 zNb ((stCs pc sc).map Nb.c)),(1001,.vec 0 zNa ((stA (pa.take j) sa).map Na.c)),(10,.vec 0 gJ [[.v (.string (bs ys)),.s 105]]),(105,.vec 1 zI ((cpL Z ql).map cI))]⟩) ?_ ?_⟩
  .refine A2 [] ?_;simp only[seval,go_sem,hcp,zI,MF]
  refine A2 [.mv 105 1002] ?_;simp only[seval,go_sem,hd,zI,E0,FF,ZR,MF]
 |false=>
 rw[hq,if_neg (by decide)]at hd
 simp only[seval,go_sem,e1,e2,w4,hz,hq]
 refine⟨hkl,Bn (by kernel_rfl),k,Nat.le_of_lt hk,Nat.lt_succ_self k,?_⟩
 refine A2 [] ?_;simp only[seval,go_sem,hd,MF]):P:=h
theorem IN{P:Prop}(h:P:=by
 have hln:(stA (List.take j pa) sa).length=j:=by rw[W6,List.length_take];omega
 have ht:=rK (s:=sa) hy
 dsimp only at ht
 rw[hZ,hL]at ht
 have hge:((stA (pa.take j) sa).map Na.c++[[C.v (.string (bs ys)),C.s 1002]])[j]?=some [C.v (.string (bs ys)),C.s 1002]:=by
  rw[List.getElem?_append_right (by rw[length_map,hln];exact Nat.le_refl _),length_map,hln,Nat.sub_self];rfl
 have hst:∀r:List C,((stA (pa.take j) sa).map Na.c++[[C.v (.string (bs ys)),C.s 1002]]).set j r=(stA (pa.take j) sa).map Na.c++[r]:=by
  intro r
  rw[List.set_append_right _ _ (by rw[length_map,hln];exact Nat.le_refl _),length_map,hln,Nat.sub_self];rfl
 refine⟨⟨⟨rfl,.inl rfl⟩,(λq h=>by cases h;rfl),hrs,(by decide),(by rw[hln];omega),(by rw[hln];omega)⟩,j+1,hlt,(by omega),BU (t:=⟨[(2,true,.one (.p 2 0 0)),(3,true,.one (.p 3 0 0)),(4,true,.one (.p 4 0 0)),(5,true,.one (.p 5 0 0)),(9,true,.one (.v (.int .i64 ((j+1:Nat):Int))))],
  [(2,Gb pc pa pf),(3,KB sc sa),(4,.vec 0 Fi [[.v (.slice none 0 0),.v (.slice none 0 0)]]),(5,.vec 0 Fi [[.s 1000,.s 120]]),(1000,.vec 0 zNb ((stCs pc sc).map Nb.c)),(120,.vec 0 zNa ((stA (pa.take (j+1)) sa).map Na.c))]⟩) ?_ ?_⟩
 .refine A2 [.fold 120 j 1] ?_;simp only[seval,go_sem,hge,hst,ht,E0,FF,ZO,zI,List.flatMap_append,List.map_append]
 refine A2 [.mv 120 1001] ?_;simp only[seval,go_sem,E0,FF]):P:=h
theorem p7{P:Prop}(h:P:=by
 have e1:((k+1:Nat):Int)-1=(k:Int):=by omega
 have e2:decide ((0:Int)<=(k:Int))=true:=by simp
 have w3:IntKind.i64.wrap ((k:Int)-1)=(k:Int)-1:=wrap_i64 (by omega) (by omega)
 have hkl:(k:Int)<(sc.length:Int):=by omega
 have hy:sc[k]?=some (sc.getD k ⟨[],0⟩):=by rw[List.getD,List.getElem?_eq_getElem hk];rfl
 generalize sc.getD k ⟨[],0⟩=y at hy
 have hz:=aM hy
 have hd:lkN x (sc.drop k)=if (y.s==x)=true then y.n else lkN x (sc.drop (k+1)):=by rw[BF hy];rfl
 obtain⟨ys,yn⟩:=y
 dsimp only at hd
 cases hq:(ys==x) with
 |true=>
  rw[hq,if_pos rfl]at hd
  simp only[seval,go_sem,e1,e2,w3,hz,hq]
  refine⟨hkl,Bn (by kernel_rfl),hkl,?_⟩
  refine⟨k,Nat.le_of_lt hk,Nat.lt_succ_self k,?_⟩
  refine A2 [] ?_;simp only[seval,go_sem,hd]
 |false=>
 rw[hq,if_neg (by decide)]at hd
 simp only[seval,go_sem,e1,e2,w3,hz,hq]
 refine⟨hkl,Bn (by kernel_rfl),?_⟩
 refine⟨k,Nat.le_of_lt hk,Nat.lt_succ_self k,?_⟩
 refine A2 [] ?_;simp only[seval,go_sem,hd]):P:=h
theorem s7{P:Prop}(h:P:=by
 have hln:(stCs (List.take i pc) sc).length=i:=by rw[ON,List.length_take];omega
 have ht:=kN (s:=sc) hx
 refine⟨⟨⟨rfl,.inl rfl⟩,(λq h=>by cases h;rfl),hrs,(by decide),(by rw[hln];omega),(by rw[hln];omega)⟩,i+1,hlt,(by omega),BU (t:=⟨[(2,true,.one (.p 2 0 0)),(3,true,.one (.p 3 0 0)),(4,true,.one (.p 4 0 0)),(5,true,.one (.p 5 0 0)),(6,true,.one (.v (.int .i64 ((i+1:Nat):Int))))],
  [(2,Gb pc pa pf),(3,KB sc sa),(4,.vec 0 Fi [[.v (.slice none 0 0),.v (.slice none 0 0)]]),(5,.vec 0 Fi [[.s 55,.v (.slice none 0 0)]]),(55,.vec 0 zNb ((stCs (pc.take (i+1)) sc).map Nb.c))]⟩) ?_ ?_⟩
 .refine A2 [] ?_;simp only[seval,go_sem,ht,List.map_append,List.flatMap_append]
 refine A2 [.mv 55 1000] ?_;simp only[seval,go_sem,E0]):P:=h
theorem AAw{P:Prop}(h:P:=by
 intro r h c hc
 rw[List.mem_singleton.1 h]at hc
 simp only[List.mem_cons,List.not_mem_nil,or_false]at hc
 rcases hc with rfl|rfl|rfl<;>rfl):P:=h
variable{P:Pg}{l:List Int}
theorem Bx{α:Type}(v:α)(s t:List UInt8):∀es:List (List UInt8×α),AH (B5 es s v) t=if (s==t)=true then some v else AH es t
 |[]=>by simp only[B5,AH]
 |(k,x)::r=>by
  simp only[B5]
  split
  .rename_i h
   have e:=eq_of_beq h
   subst e
   simp only[AH]
   split<;>rfl
  rename_i h
  simp only[AH,Bx v s t r]
  by_cases h1:(k==t)=true
  .rw[if_pos h1]
   have h2:¬(s==t)=true:=by
    intro h2
    exact h (by rw[eq_of_beq h2];exact h1)
   rw[if_neg h2,if_pos h1]
  rw[if_neg h1,if_neg h1]
def idx(s:List UInt8):List (List UInt8)->Option Nat
 |[]=>none
 |x::r=>if (x==s)=true then some 0 else (idx s r).map (·+1)
theorem dx(s:List UInt8):∀(l:List (List UInt8)) (i:Nat) (es:List (List UInt8×Int)),AH (Gc l i es) s=match AH es s with
  |some v=>some v
  |none=>(idx s l).map λj=>((j+i:Nat):Int)
 |[],i,es=>by simp only[Gc,idx,Option.map_none];cases AH es s<;>rfl
 |x::r,i,es=>by
  simp only[Gc,dx s r (i+1),idx]
  cases hx:(AH es x).isSome with
  |true=>
   rw[if_pos rfl]
   cases hs:AH es s with
   |some v=>rfl
   |none=>
   have:¬(x==s)=true:=by
    intro h
    rw[eq_of_beq h,hs]at hx;cases hx
   rw[if_neg this]
   cases idx s r with
   |none=>rfl
   |some j=>simp only[Option.map_some];congr 2;omega
  |false=>
  rw[if_neg (by decide),Bx]
  by_cases h:(x==s)=true
  .have e:=eq_of_beq h
   subst e
   rw[if_pos h,if_pos h]
   cases hs:AH es x with
   |some v=>rw[hs]at hx;cases hx
   |none=>simp
  rw[if_neg h,if_neg h]
  cases AH es s with
  |some v=>rfl
  |none=>
  cases idx s r with
  |none=>rfl
  |some j=>simp only[Option.map_some];congr 2;omega
theorem SW(s:List UInt8)(l:List (List UInt8)):AH (fI l) s=(idx s l).map Int.ofNat:=by
 unfold fI
 rw[dx]
 cases idx s l<;>rfl
def lkN(s:List UInt8):List Nb->Int
 |[]=>0
 |x::r=>if (x.s==s)=true then x.n else lkN s r
def lkA(s:List UInt8)(d:List Int):List Na->List Int
 |[]=>d
 |x::r=>if (x.s==s)=true then cpL d x.l else lkA s d r
theorem dy(s:List UInt8):∀l:List Nb,lkN s l=match idx s (l.map Nb.s) with
  |some j=>(l.getD j ⟨[],0⟩).n
  |none=>0
 |[]=>rfl
 |x::r=>by
  simp only[lkN,List.map_cons,idx]
  by_cases h:(x.s==s)=true
  .rw[if_pos h,if_pos h];rfl
  rw[if_neg h,if_neg h,dy s r]
  cases idx s (r.map Nb.s)<;>rfl
theorem dz(s:List UInt8)(d:List Int):∀l:List Na,lkA s d l=match idx s (l.map Na.s) with
  |some j=>cpL d (l.getD j ⟨[],[]⟩).l
  |none=>d
 |[]=>rfl
 |x::r=>by
  simp only[lkA,List.map_cons,idx]
  by_cases h:(x.s==s)=true
  .rw[if_pos h,if_pos h];rfl
  rw[if_neg h,if_neg h,dz s d r]
  cases idx s (r.map Na.s)<;>rfl
theorem A02(l:List Nb)(s:List UInt8):stN l ⟨s,0⟩=⟨s,lkN s l⟩:=by
 unfold stN
 dsimp only
 rw[SW,dy]
 cases idx s (l.map Nb.s) with
 |none=>rfl
 |some j=>rfl
theorem uu(l:List Na)(s:List UInt8)(d:List Int):LN l ⟨s,d⟩=⟨s,lkA s d l⟩:=by
 unfold LN
 dsimp only
 rw[SW,dz]
 cases idx s (l.map Na.s) with
 |none=>rfl
 |some j=>rfl
theorem kN{p:List (List UInt8)}{s:List Nb}{i:Nat}{x:List UInt8}(h:p[i]?=some x):(stCs (p.take (i+1)) s).map Nb.c=(stCs (p.take i) s).map Nb.c++[[.v (.string (bs x)),.v (.int .i64 (lkN x s))]]:=by
 rw[List.take_add_one,h]
 simp[stCs,blC,A02,Nb.c]
theorem rK{p:List Gy}{s:List Na}{i:Nat}{x:Gy}(h:p[i]?=some x):(stA (p.take (i+1)) s).map Na.c=(stA (p.take i) s).map Na.c++[[.v (.string (bs x.s)),.ov zI ((lkA x.s (List.replicate x.n.toNat 0) s).map cI)]]:=by
 rw[List.take_add_one,h]
 simp[stA,blA,uu,Na.c]
theorem ON(p:List (List UInt8))(s:List Nb):(stCs p s).length=p.length:=by simp[stCs,blC]
theorem W6(p:List Gy)(s:List Na):(stA p s).length=p.length:=by simp[stA,blA]
abbrev KB(sc:List Nb)(sa:List Na):Ch:=.vec 0 [.v (.bool false),.v (.bool false)] [[.d (.sl Hc (sc.map Nb.r)),.d (.sl Hd (sa.map Na.r))]]
theorem ZR(k t:Nat)(l:List Int):(l.map cI).map (λr=>r.map (mvC k t))=l.map cI:=HU cI (λ_=>rfl) l
abbrev A03:List C:=tgN 69 2
abbrev gJ:List C:=tgN 72 2
abbrev Yd(p:Pg)(s:Sta):Prop:=p.g.c.length<=1000000/\p.g.a.length<=1000000/\(∀x∈p.g.a,1<=x.n/\x.n<=1048576)/\s.cs.length<=1000000/\s.ar.length<=1000000
abbrev P9(p:Pg)(s:Sta):SV:=.agg (stR ⟨stCs p.g.c s.cs,stA p.g.a s.ar⟩)
noncomputable abbrev SX:ArgC ((Pg)×(Sta)×Unit):=(acS (cPg) (acS (cSta) ac0))
abbrev kO:Prop:=Ca Tryz.prog 18 SX (λp:(Pg)×(Sta)×Unit=>Yd p.1 p.2.1) (λp:(Pg)×(Sta)×Unit=>P9 p.1 p.2.1)
section
attribute [local go_sem] Na.r Nb.r GM GL MX MW G9 Ez pgR stR
attribute[local go_sem] iD in
theorem oJ:kO:=by
 rintro ⟨p,s,_u⟩ w fz xs hc hfz hl hx
 refine Bg Tryz.func18 rfl w fz [] [] SX (λp:(Pg)×(Sta)×Unit=>P9 p.1 p.2.1) _ xs hfz hl hx (jN rfl) ?_
 clear hx hl hfz xs
 simp only[Tryz.f18]
 obtain⟨⟨pc,pa⟩,pf⟩:=p
 obtain⟨sc,sa⟩:=s
 obtain⟨h1,h2,h3,h4,h5⟩:=hc
 dsimp only at h1 h2 h3 h4 h5
 simp only[seval,go_sem]
 refine AC (Y:=Nat) (λi=>i<=pc.length)
  (λi=>⟨[(2,true,.one (.p 2 0 0)),(3,true,.one (.p 3 0 0)),(4,true,.one (.p 4 0 0)),(5,true,.one (.p 5 0 0)),(6,true,.one (.v (.int .i64 (i:Int))))],
   [(2,Gb pc pa pf),(3,KB sc sa),(4,.vec 0 Fi [[.v (.slice none 0 0),.v (.slice none 0 0)]]),(5,.vec 0 Fi [[.s 1000,.v (.slice none 0 0)]]),(1000,.vec 0 zNb ((stCs (pc.take i) sc).map Nb.c))]⟩)
  (λi=>pc.length-i) 0 (Nat.zero_le _) ?_ ?_
 .refine A2 [.nilr 5 0 0 1000 zNb] ?_;simp only[seval,go_sem,zNb,stCs,blC]
 rintro i hi
 refine AP [] [] _ _ _ ?_
 have w1:IntKind.i64.wrap ((i:Int)+1)=((i+1:Nat):Int):=by rw[wrap_i64 (by omega) (by omega)];rfl
 cases hx:pc[i]? with
 |none=>
  have g2:=List.getElem?_eq_none_iff.1 hx
  have g1:=Ai g2
  simp only[seval,go_sem,g1]
  rw[List.take_of_length_le g2]
  refine AC (Y:=Nat) (λj=>j<=pa.length)
   (λj=>⟨[(2,true,.one (.p 2 0 0)),(3,true,.one (.p 3 0 0)),(4,true,.one (.p 4 0 0)),(5,true,.one (.p 5 0 0)),(9,true,.one (.v (.int .i64 (j:Int))))],
    [(2,Gb pc pa pf),(3,KB sc sa),(4,.vec 0 Fi [[.v (.slice none 0 0),.v (.slice none 0 0)]]),(5,.vec 0 Fi [[.s 1000,.s 1001]]),(1000,.vec 0 zNb ((stCs pc sc).map Nb.c)),(1001,.vec 0 zNa ((stA (pa.take j) sa).map Na.c))]⟩)
   (λj=>pa.length-j) 0 (Nat.zero_le _) ?_ ?_
  .refine A2 [.nilr 5 0 1 1001 zNa] ?_;simp only[seval,go_sem,zNa,stA,blA]
  rintro j hj
  refine AP [] [] _ _ _ ?_
  have w2:IntKind.i64.wrap ((j:Int)+1)=((j+1:Nat):Int):=by rw[wrap_i64 (by omega) (by omega)];rfl
  cases hy:pa[j]? with
  |none=>
   have k2:=List.getElem?_eq_none_iff.1 hy
   have k1:=Ai k2
   simp only[seval,go_sem,k1]
   rw[List.take_of_length_le k2]
   refine A1 [.fz 1000,.fz 1001] ?_;simp only[seval,go_sem,bne,P9,SP,SQ,LO,LP,zNb,zNa]
  |some y=>
  have hlt:=(List.getElem?_eq_some_iff.1 hy).1
  have k1:=Ah hlt
  have hjl:(j:Int)<(pa.length:Int):=by omega
  have hyn:=h3 y (List.mem_of_getElem? hy)
  have hgz:∀z,(pa.map Gy.r).getD j z=y.r:=by intro z;simp[List.getD,hy]
  obtain⟨ys,yn⟩:=y
  dsimp only at hyn
  have w3:IntKind.i64.wrap ((sa.length:Int)-1)=(sa.length:Int)-1:=wrap_i64 (by omega) (by omega)
  simp only[seval,go_sem,k1,hgz,Gy.r,w3]
  have hm1:yn.toNat<=1048576:=by omega
  have hm0:0<yn.toNat:=by omega
  obtain⟨Z,hZ⟩:∃Z,List.replicate yn.toNat (0:Int)=Z:=⟨_,rfl⟩
  have hZc:List.replicate yn.toNat [C.v (.int .i64 0)]=Z.map cI:=by rw[<- hZ,Vx]
  have hZl:Z.length=yn.toNat:=by rw[<- hZ];simp
  refine⟨⟨hjl,rfl⟩,⟨hjl,rfl⟩,⟨(by omega),(by omega),(by omega)⟩,Bn (by kernel_rfl),?_⟩
  refine AC (Y:=Nat) (λkk=>kk<=sa.length)
   (λkk=>⟨[(2,true,.one (.p 2 0 0)),(3,true,.one (.p 3 0 0)),(4,true,.one (.p 4 0 0)),(5,true,.one (.p 5 0 0)),(9,true,.one (.v (.int .i64 (j:Int)))),(10,true,.one (.p 10 0 0)),(11,true,.one (.v (.int .i64 ((kk:Int)-1))))],
    [(2,Gb pc pa pf),(3,KB sc sa),(4,.vec 0 Fi [[.v (.slice none 0 0),.v (.slice none 0 0)]]),(5,.vec 0 Fi [[.s 1000,.s 1001]]),(1000,.vec 0 zNb ((stCs pc sc).map Nb.c)),(1001,.vec 0 zNa ((stA (pa.take j) sa).map Na.c)),(10,.vec 0 gJ [[.v (.string (bs ys)),.s 1002]]),(1002,.vec 0 zI ((lkA ys Z (sa.drop kk)).map cI))]⟩)
   (λkk=>kk) sa.length (Nat.le_refl _) ?_ ?_
  .refine A2 [.mv 79 1002] ?_;simp only[seval,go_sem,lkA,List.drop_length,hZc,zI,E0,FF,MF,ZR]
  rintro kk hk
  refine AP [] [] _ _ _ ?_
  cases kk with
  |zero=>
   have e0:decide ((0:Int)<=((0:Nat):Int)-1)=false:=by decide
   simp only[seval,go_sem,e0,w2]
   generalize hL:lkA ys Z sa=L
   have hrs:BS [[C.v (Value.string (bs ys)),C.s 1002]]:=by
    exact r9
   exact IN
  |succ k=>
  exact AT
 |some x=>
 have hlt:=(List.getElem?_eq_some_iff.1 hx).1
 have g1:=Ah hlt
 have hil:(i:Int)<(pc.length:Int):=by omega
 have hs:(pc.map cSd).getD i Fq=cSd x:=by simp[List.getD,hx]
 have w2:IntKind.i64.wrap ((sc.length:Int)-1)=(sc.length:Int)-1:=wrap_i64 (by omega) (by omega)
 simp only[seval,go_sem,g1,hs,cSd,w2]
 refine⟨⟨hil,rfl⟩,?_⟩
 refine AC (Y:=Nat) (λkk=>kk<=sc.length)
  (λkk=>⟨[(2,true,.one (.p 2 0 0)),(3,true,.one (.p 3 0 0)),(4,true,.one (.p 4 0 0)),(5,true,.one (.p 5 0 0)),(6,true,.one (.v (.int .i64 (i:Int)))),(7,true,.one (.p 7 0 0)),(8,true,.one (.v (.int .i64 ((kk:Int)-1))))],
   [(2,Gb pc pa pf),(3,KB sc sa),(4,.vec 0 Fi [[.v (.slice none 0 0),.v (.slice none 0 0)]]),(5,.vec 0 Fi [[.s 1000,.v (.slice none 0 0)]]),(1000,.vec 0 zNb ((stCs (pc.take i) sc).map Nb.c)),(7,.vec 0 A03 [[.v (.string (bs x)),.v (.int .i64 (lkN x (sc.drop kk)))]])]⟩)
  (λkk=>kk) sc.length (Nat.le_refl _) ?_ ?_
 .refine A2 [] ?_;simp only[seval,go_sem,lkN,List.drop_length]
 rintro kk hk
 refine AP [] [] _ _ _ ?_
 cases kk with
 |zero=>
  have e0:decide ((0:Int)<=((0:Nat):Int)-1)=false:=by decide
  simp only[seval,go_sem,e0,w1]
  have hrs:BS [[C.v (Value.string (bs x)),C.v (Value.int IntKind.i64 (lkN x sc))]]:=by
   exact r9
  exact s7
 |succ k=>
 exact p7
noncomputable def Ye{X:Ctx}{w0:World}:Sy.Spec Tryz.prog X w0:=Dq 18 Tryz.call18 SX _ _ KF3 oJ
end
open Go Go.Sy Go.RowKit Go.ChangeShapes Go.WideShapes Go.ChangeAt
section
variable {H:Type}{enc:TypeId×Value->H}{W:World}
theorem aP(fuel:Nat):J3 enc Tryz.prog W 23 fuel (λl:List Int=>[.sl zIw (l.map iD)]) (λl=>l.length<=maxLen/\∀x∈l,Uo x):=by
 cases fuel with
 |zero=>exact I9
 |succ n=>exact Lj id _ _ (LD Tryz.underlying23 zIw (by kernel_rfl) (by decide) (UV Tryz.underlying2)) (λ_=>rfl) (λ_ h=>⟨h.1,λx hx=>Xe (h.2 x hx)⟩)
theorem A04(fuel:Nat):J3 enc Tryz.prog W 69 fuel Nb.r (λ_=>True):=by
 cases fuel with
 |zero=>exact I9
 |succ n=>
 exact Lj (λp:List UInt8×Int×Unit=>(⟨p.1,p.2.1⟩:Nb)) _ _ (PP Tryz.underlying69 (n:=2) (by kernel_rfl)
  (Ks (m:=1) (n:=1) rfl (by kernel_rfl) (Zn Tryz.underlying9) (Ks (m:=1) (n:=0) rfl (by kernel_rfl) (UV Tryz.underlying2) (UW _)))) (λ_=>rfl) (λp hp=>trivial)
theorem A05(fuel:Nat):J3 enc Tryz.prog W 72 fuel Na.r (λx=>x.l.length<=maxLen):=by
 cases fuel with
 |zero=>exact I9
 |succ n=>
 exact Lj (λp:List UInt8×List Int×Unit=>(⟨p.1,p.2.1⟩:Na)) _ _ (PP Tryz.underlying72 (n:=2) (by kernel_rfl)
  (Ks (m:=1) (n:=1) rfl (by kernel_rfl) (Zn Tryz.underlying9) (Ks (m:=1) (n:=0) rfl (by kernel_rfl) (aP n) (UW _)))) (λ_=>rfl) (λp hp=>hp.2.1.1)
theorem uv(fuel:Nat):J3 enc Tryz.prog W 24 fuel (λl:List Nb=>[.sl Hc (l.map Nb.r)]) (λl=>l.length<=maxLen):=by
 cases fuel with
 |zero=>exact I9
 |succ n=>exact Lj id _ _ (LD Tryz.underlying24 Hc (by kernel_rfl) (by decide) (A04 n)) (λ_=>rfl) (λ_ h=>h.1)
theorem uw(fuel:Nat):J3 enc Tryz.prog W 25 fuel (λl:List Na=>[.sl Hd (l.map Na.r)]) (λl=>l.length<=maxLen/\∀x∈l,x.l.length<=maxLen):=by
 cases fuel with
 |zero=>exact I9
 |succ n=>exact LD Tryz.underlying25 Hd (by kernel_rfl) (by decide) (A05 n)
def A7r(s:Sta):List D:=[.sl Hc (s.cs.map Nb.r),.sl Hd (s.ar.map Na.r)]
theorem ux(fuel:Nat):J3 enc Tryz.prog W 27 fuel A7r (λs=>s.cs.length<=maxLen/\s.ar.length<=maxLen/\∀x∈s.ar,x.l.length<=maxLen):=by
 cases fuel with
 |zero=>exact I9
 |succ n=>
 exact Lj (λp:List Nb×List Na×Unit=>(⟨p.1,p.2.1⟩:Sta)) _ _ (PP Tryz.underlying27 (n:=2) (by kernel_rfl)
  (Ks (m:=1) (n:=1) rfl (by kernel_rfl) (uv n) (Ks (m:=1) (n:=0) rfl (by kernel_rfl) (uw n) (UW _)))) (λ_=>rfl) (λp hp=>⟨hp.1,hp.2.1.1,hp.2.1.2⟩)
variable {base:Nat}{v:Value}{d:DataW H}{p:List MemPlace}
theorem kQ(hv:Value.okWide Tryz.prog W .any base 23 v)(h:DataW.Trod enc Tryz.prog W 0 (λ_=>true) true 23 v d p):
  ∃l:List Int,(l.length<=maxLen/\∀x∈l,Uo x)/\CD (hp W) (λb=>b<W.heap.size) (.one (.d (.sl zIw (l.map iD)))) v:=Zo (f:=λl:List Int=>D.sl zIw (l.map iD)) (r:=.any) (base:=base) (YY Tryz.underlying23 hv) h aP
theorem oL(hv:Value.okWide Tryz.prog W .any base 27 v)(h:DataW.Trod enc Tryz.prog W 0 (λ_=>true) true 27 v d p):
  ∃s:Sta,(s.cs.length<=maxLen/\s.ar.length<=maxLen/\∀x∈s.ar,x.l.length<=maxLen)/\CD (hp W) (λb=>b<W.heap.size) (.agg (stR s)) v:=
 nD (fR Tryz.underlying27 hv) h ux
end
open Go Go.Sy Go.RowKit Go.ChangeShapes Go.WideShapes Go.ChangeAt
open Go Go.Sy Go.RowKit
def GA:List C:=[.v (.bool false),.v (.int .i64 0),.v (.string (bs []))]
theorem Jb(l:List Va):List.flatMap (λr=>List.flatMap C.names r) (l.map Va.c)=[]:=List.flatMap_eq_nil_iff.2 λp hp=>by
 exact wT
theorem ZS(k t:Nat)(l:List Va):(l.map Va.c).map (λr=>r.map (mvC k t))=l.map Va.c:=HU Va.c (λ_=>rfl) l
theorem kR(l:List Va):EZ (l.map Va.c)=some (l.map Va.r):=Hi Va.c (λ_=>rfl) l
noncomputable def cI6:Cod (List Int):=Hl (λl=>.one (.d (.sl zIw (l.map iD)))) (λv a b h h'=>by
 cases v with
 |one c=>exact Aj aD (GH h h')
 |agg l=>exact h.elim
 |tup l=>exact h.elim) (λl=>rfl)
theorem rL(l:List Int):cI6.e l= .one (.d (.sl zIw (l.map iD))):=rfl
theorem rM(l:List Int):cI6.d (.one (.d (.sl zIw (l.map iD))))=some l:=E4 (e:=λl:List Int=>.one (.d (.sl zIw (l.map iD)))) (F4 _)
def A7s(P:Pg):List Va:=⟨true,0,[]⟩::P.g.c.map λc=>⟨true,0,c⟩
def A4b(l:List Int):List Va:=if (l.length:Int)==0 then [⟨false,0,[]⟩] else l.map λn=>⟨false,n,[]⟩
theorem gK(p:Bool)(n:Int)(s:List UInt8):BS [[C.v (.bool p),C.v (.int .i64 n),C.v (.string (bs s))]]:=by
 exact AAw
def fnd(f:List UInt8):List Fn->Option Fn
 |[]=>none
 |g::r=>if (g.name==f)=true then some g else fnd f r
def A7t(P:Pg)(l:List Int)(v:Vr):List Va:=if v.p=true then A7s P else A4b l
def oM(P:Pg)(f:List UInt8)(l:List Int):List (List Va):=match fnd f P.fs with
 |some g=>g.ps.map (A7t P l)
 |none=>[]
theorem A06{l:List Vr}{i:Nat}{x:Vr}(h:l[i]?=some x)(z:List D):(l.map Vr.r).getD i z=x.r:=by simp[List.getD,h]
theorem A07{l:List Fn}{i:Nat}{x:Fn}(h:l[i]?=some x)(z:List D):(l.map Fn.r).getD i z=x.r:=by simp[List.getD,h]
def pkR:List (List Va)->Int->List Va×Int
 |[],n=>([],n)
 |c::r,n=>(c.getD ((pkR r n).2.tmod (c.length:Int)).toNat va0::(pkR r n).1,(pkR r n).2.tdiv (c.length:Int))
def pkF(l:List (List Va))(n:Int):List Va:=(pkR l n).1
theorem eA{f:List UInt8}{g:Fn}:∀{l:List Fn},fnd f l=some g->g∈l
 |x::r,h=>by
  simp only[fnd]at h
  split at h
  .rw[Option.some.inj h];exact List.mem_cons_self ..
  exact List.mem_cons_of_mem _ (eA h)
theorem oN{P:Pg}{f:List UInt8}(h:∀g∈P.fs,g.ps.length<=5000):(oM P f l).length<=5000:=by
 unfold oM
 cases hf:fnd f P.fs with
 |none=>exact Nat.zero_le _
 |some g=>dsimp only;rw[length_map];exact h g (eA hf)
theorem uy(l:List (List Va))(n:Int):(pkF l n).length=l.length:=by
 unfold pkF
 induction l with
 |nil=>rfl
 |cons c r ih=>show (pkR r n).1.length+1=_;rw[ih];rfl
def blS(P:Pg):Sta:=⟨blC P.g.c,blA P.g.a⟩
structure okW(N n:Nat)(P:Pg)(l:List Int)(fuel:Int):Prop where
 p:okPg N P
 c:P.g.c.length<=1000000
 a:P.g.a.length<=1000000
 q:∀x∈P.g.a,1<=x.n/\x.n<=1048576
 i:l.length<=1000000
 f:fuel<n
 n:n<=1000000000
theorem okW.ps{N n:Nat}{P:Pg}{fuel:Int}(h:okW N n P l fuel):∀g∈P.fs,g.ps.length<=5000:=λg hg=>(h.p.f g hg).1.1
theorem okW.r{N n:Nat}{fuel:Int}(h:okW N n P l fuel)(f:List UInt8)(i:Int):okR N n P (pkF (oM P f l) i) (blS P) fuel:=
 ⟨h.p,h.c,h.a,h.q,by simp[blS,blC];exact h.c,by simp[blS,blA];exact h.a,by rw[uy];exact oN h.ps,h.f,h.n⟩
abbrev cY(g:Int):Prop:=0<=g
abbrev EK(g:Int):SV:=.one (.v (.string (bs (glS g))))
noncomputable abbrev PU:ArgC ((Int)×Unit):=(acS (cInt .u8) ac0)
abbrev cZ:Prop:=Ca Tryz.prog 45 PU (λp:(Int)×Unit=>cY p.1) (λp:(Int)×Unit=>EK p.1)
theorem gL:cZ:=by
 rintro ⟨g,_u⟩ w fz xs hc hfz hl hx
 refine Bg Tryz.func45 rfl w fz [] [] PU (λp:(Int)×Unit=>EK p.1) _ xs hfz hl hx (jN rfl) ?_
 clear hx hl hfz xs
 simp only[Tryz.f45]
 cases c0:(g.tmod 5==0) with
 |true=>
  have hr:glS g=XB:=by unfold glS;rw[if_pos c0]
  simp only[seval,go_sem,c0]
  try simp only[AD,AE]
  repeat' first|exact ck|with_reducible apply And.intro|intro _
  all_goals first|exact trivial|exact KZ|(refine A1 [] ?_;simp only[seval,go_sem,bne,EK,hr,XB])
 |false=>
 cases c1:(g.tmod 5==1) with
 |true=>
  have hr:glS g=XC:=by unfold glS;rw[if_neg (by rw[c0];decide),if_pos c1]
  simp only[seval,go_sem,c0,c1]
  try simp only[AD,AE]
  repeat' first|exact ck|with_reducible apply And.intro|intro _
  all_goals first|exact trivial|exact KZ|(refine A1 [] ?_;simp only[seval,go_sem,bne,EK,hr,XC])
 |false=>
 cases c2:(g.tmod 5==2) with
 |true=>
  have hr:glS g=XD:=by unfold glS;rw[if_neg (by rw[c0];decide),if_neg (by rw[c1];decide),if_pos c2]
  simp only[seval,go_sem,c0,c1,c2]
  try simp only[AD,AE]
  repeat' first|exact ck|with_reducible apply And.intro|intro _
  all_goals first|exact trivial|exact KZ|(refine A1 [] ?_;simp only[seval,go_sem,bne,EK,hr,XD])
 |false=>
 cases c3:(g.tmod 5==3) with
 |true=>
  have hr:glS g=XE:=by unfold glS;rw[if_neg (by rw[c0];decide),if_neg (by rw[c1];decide),if_neg (by rw[c2];decide),if_pos c3]
  simp only[seval,go_sem,c0,c1,c2,c3]
  try simp only[AD,AE]
  repeat' first|exact ck|with_reducible apply And.intro|intro _
  all_goals first|exact trivial|exact KZ|(refine A1 [] ?_;simp only[seval,go_sem,bne,EK,hr,XE])
 |false=>
 have hr:glS g=XF:=by unfold glS;rw[if_neg (by rw[c0];decide),if_neg (by rw[c1];decide),if_neg (by rw[c2];decide),if_neg (by rw[c3];decide)]
 simp only[seval,go_sem,c0,c1,c2,c3]
 try simp only[AD,AE]
 repeat' first|exact ck|with_reducible apply And.intro|intro _
 all_goals first|exact trivial|exact KZ|(refine A1 [] ?_;simp only[seval,go_sem,bne,EK,hr,XF])
noncomputable def Gj{X:Ctx}{w0:World}:Sy.Spec Tryz.prog X w0:=Dq 45 Tryz.call45 PU _ _ KF5 gL
end Go.Proofs.YtapedeoheilnnaaGreat
