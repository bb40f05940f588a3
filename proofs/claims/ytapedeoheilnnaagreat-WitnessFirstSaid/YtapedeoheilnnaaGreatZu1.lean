/- The document's tries are the program's (plain). Conditions: those in each statement. -/
import Derived.Test.YtapedeoheilnnaaGreatRu1
import Derived.Test.YtapedeoheilnnaaGreatWl
set_option linter.all false
open Nat (zero_le)
open List (length_cons getElem?_map length_map take_of_length_le length_take mem_map flatMap_cons)
namespace Go.Proofs.YtapedeoheilnnaaGreat
open Go Go.Sy Go.RowKit
theorem B1s(p:List (List UInt8))(j:Nat):((blC p).getD j ⟨[],0⟩).n=0:=by
 unfold blC
 rw[List.getD_eq_getElem?_getD,getElem?_map]
 cases p[j]?<;>rfl
theorem B1t(p:List Gy)(j:Nat):∃k,((blA p).getD j ⟨[],[]⟩).l=List.replicate k 0:=by
 unfold blA
 rw[List.getD_eq_getElem?_getD,getElem?_map]
 cases p[j]? with
 |none=>exact⟨0,rfl⟩
 |some x=>exact⟨_,rfl⟩
theorem B1u(a b:Nat):cpL (List.replicate a 0) (List.replicate b 0)=List.replicate a 0:=by
 unfold cpL
 rw[List.length_replicate,List.length_replicate,List.take_replicate,List.drop_replicate,List.replicate_append_replicate]
 congr 1
 omega
theorem B1j(p:List (List UInt8)):stCs p (blC p)=blC p:=by
 unfold stCs
 conv=>rhs;rw[<- List.map_id (blC p)]
 refine List.map_congr_left λx hx=>?_
 unfold stN
 split
 .rw[B1s]
  obtain⟨s,_,rfl⟩:=mem_map.1 hx
  rfl
 rfl
theorem B1v(p:List Gy):stA p (blA p)=blA p:=by
 unfold stA
 conv=>rhs;rw[<- List.map_id (blA p)]
 refine List.map_congr_left λx hx=>?_
 unfold LN
 split
 .obtain⟨k,hk⟩:=B1t p (Int.toNat _)
  rw[hk]
  obtain⟨s,_,rfl⟩:=mem_map.1 hx
  rw[B1u]
  rfl
 rfl
theorem B1w(n:Nat)(P:Pg)(f:List UInt8)(va:List Va)(fuel:Int):clF n P f va ⟨[],[]⟩ fuel=clF n P f va (blS P) fuel:=by
 have h:ms0 P ⟨[],[]⟩ fuel=ms0 P (blS P) fuel:=by
  unfold ms0 blS
  dsimp only
  rw[y7,A30,B1j,B1v]
 unfold clF
 rw[h]
theorem B0N(f:List UInt8):∀l,fnG f l=fnd f l
 |[]=>rfl
 |g::r=>by unfold fnG fnd;rw[B0N f r]
def lpD(a:Va):List (List Va)->List (List Va)->List (List Va)
 |[],M=>M
 |o::r,M=>if decide ((M.length:Int)<2000)=true then lpD a r (M++[a::o]) else M
def lpC(out:List (List Va)):List Va->List (List Va)->List (List Va)
 |[],M=>M
 |a::r,M=>if decide ((M.length:Int)<2000)=true then lpC out r (lpD a out M) else M
def tsL(P:Pg)(l:List Int):List Vr->List (List Va)
 |[]=>[[]]
 |v::r=>lpC (tsL P l r) (A7t P l v) []
def tsF(P:Pg)(f:List UInt8)(l:List Int):List (List Va):=match fnd f P.fs with
 |some g=>tsL P l g.ps
 |none=>[]
theorem B1k{A:Type}(a b:List A)(n:Nat):(a.take n++b).take n=(a++b).take n:=by
 rw[List.take_append,List.take_append,List.take_take,Nat.min_self,length_take]
 congr 2
 omega
theorem B0f{A:Type}(a b:List A){n:Nat}(h:a.length=n):(a++b).take n=a:=by
 rw[List.take_append_of_le_length (by omega),take_of_length_le (by omega)]
theorem B10(a:Va):∀(out M:List (List Va)),M.length<=2000->lpD a out M=(M++out.map (a::·)).take 2000
 |[],M,h=>by show M=(M++[]).take 2000;rw[List.append_nil,take_of_length_le h]
 |o::r,M,h=>by
  unfold lpD
  split
  .rename_i h1
   have h1:=of_decide_eq_true h1
   rw[B10 a r _ (by simp;omega),List.append_assoc]
   rfl
  rename_i h1
  exact(B0f _ _ (by simp at h1;omega)).symm
theorem B11(out:List (List Va)):∀(w:List Va) (M:List (List Va)),M.length<=2000->lpC out w M=(M++w.flatMap λa=>out.map (a::·)).take 2000
 |[],M,h=>by show M=(M++[]).take 2000;rw[List.append_nil,take_of_length_le h]
 |a::r,M,h=>by
  unfold lpC
  split
  .rw[B10 a out M h,B11 out r _ (by rw[length_take];omega),flatMap_cons,<- List.append_assoc]
   exact B1k _ _ _
  rename_i h1
  exact(B0f _ _ (by simp at h1;omega)).symm
def prl:List (List Va)->Nat
 |[]=>1
 |c::r=>c.length*prl r
theorem B0O:∀l:List (List Va),(∀x∈l,0<x.length)->0<prl l
 |[],_=>Nat.zero_lt_one
 |c::r,h=>Nat.mul_pos (h c (List.mem_cons_self ..)) (B0O r λx hx=>h x (List.mem_cons_of_mem _ hx))
theorem B1M:∀(l:List (List Va)) (i:Nat),(pkR l (i:Int)).2=((i / prl l:Nat):Int)
 |[],i=>by show (i:Int)=_;rw[show prl []=1 from rfl,Nat.div_one]
 |c::r,i=>by
  show (pkR r (i:Int)).2.tdiv (c.length:Int)=_
  rw[B1M r i,show prl (c::r)=c.length*prl r from rfl,Nat.mul_comm,<- Nat.div_div_eq_div_mul]
  exact(Int.ofNat_tdiv _ _).symm
theorem B0p(c:List Va)(r:List (List Va))(i:Nat):pkF (c::r) (i:Int)=c.getD (i / prl r % c.length) va0::pkF r (i:Int):=by
 show c.getD ((pkR r (i:Int)).2.tmod (c.length:Int)).toNat va0::_=_
 rw[B1M r i,<- Int.ofNat_tmod,Int.toNat_natCast]
 rfl
theorem B0q:∀(l:List (List Va)) (i:Nat),pkF l ((i % prl l:Nat):Int)=pkF l (i:Int)
 |[],i=>rfl
 |c::r,i=>by
  rw[B0p,B0p,<- B0q r (i % prl (c::r)),<- B0q r i]
  show c.getD (i % (c.length*prl r) / prl r % c.length) va0::pkF r ((i % (c.length*prl r) % prl r:Nat):Int)=_
  rw[Nat.mod_mul_left_div_self,Nat.mod_mod,Nat.mod_mul_left_mod]
theorem B0V:∀(l:List (List Va)) (n:Nat),(∀x∈l,0<x.length/\x.length<=1000000000)->1<=n->n<=2000->B03 l (n:Int)=((min (n*prl l) 2000:Nat):Int)
 |[],n,_,h1,h2=>by show (n:Int)=_;rw[show prl []=1 from rfl];omega
 |c::r,n,h,h1,h2=>by
  obtain⟨h3,_⟩:=h c (List.mem_cons_self ..)
  have hr:∀x∈r,0<x.length/\x.length<=1000000000:=λx hx=>h x (List.mem_cons_of_mem _ hx)
  have hp:0<prl r:=B0O r λx hx=>(hr x hx).1
  have e:n*prl (c::r)=n*c.length*prl r:=(Nat.mul_assoc ..).symm
  have g1:n*c.length<=n*c.length*prl r:=Nat.le_mul_of_pos_right _ hp
  have g2:c.length<=n*c.length:=Nat.le_mul_of_pos_left _ h1
  rw[e]
  simp only[B03]
  split
  .rename_i hc
   have hc:=of_decide_eq_true hc
   omega
  rename_i hc
  have hc:c.length<2000:=by simp at hc;omega
  have g3:n*c.length<=2000*2000:=Nat.mul_le_mul h2 (Nat.le_of_lt hc)
  rw[<- Int.natCast_mul,wrap_i64 (by omega) (by omega)]
  by_cases h5:n*c.length<=2000
  .have:mn ((n*c.length:Nat):Int) 2000=((n*c.length:Nat):Int):=by unfold mn;split<;>omega
   rw[this,B0V r _ hr (by omega) h5]
  have:mn ((n*c.length:Nat):Int) 2000=((2000:Nat):Int):=by unfold mn;split<;>omega
  rw[this,B0V r _ hr (by decide) (Nat.le_refl _)]
  have:2000<=2000*prl r:=Nat.le_mul_of_pos_right _ hp
  omega
theorem B12(out:List (List Va)){m:Nat}(hm:out.length=m)(h0:0<m):∀(c:List Va) (i:Nat),i<c.length*m->(c.flatMap λa=>out.map (a::·))[i]?=some (c.getD (i / m) va0::out.getD (i % m) [])
 |[],i,h=>by simp at h
 |a::c,i,h=>by
  rw[flatMap_cons]
  by_cases hi:i<m
  .rw[List.getElem?_append_left (by rw[length_map];omega),getElem?_map,Nat.div_eq_of_lt hi,Nat.mod_eq_of_lt hi,List.getD_eq_getElem?_getD (l:=out),List.getElem?_eq_getElem (by omega)]
   rfl
  have hi:m<=i:=by omega
  have h:i<(c.length+1)*m:=h
  rw[Nat.succ_mul]at h
  rw[List.getElem?_append_right (by rw[length_map];omega),length_map,hm,B12 out hm h0 c (i-m) (by omega),Nat.mod_eq_sub_mod hi,Nat.div_eq_sub_div h0 hi]
  rfl
theorem B13(out:List (List Va)):∀c:List Va,(c.flatMap λa=>out.map (a::·)).length=c.length*out.length
 |[]=>by simp
 |a::c=>by rw[flatMap_cons,List.length_append,B13 out c,length_map,length_cons,Nat.succ_mul];omega
def tsc:List (List Va)->List (List Va)
 |[]=>[[]]
 |c::r=>(c.flatMap λa=>(tsc r).map (a::·)).take 2000
theorem B0r(P:Pg)(l:List Int):∀ps,tsL P l ps=tsc (ps.map (A7t P l))
 |[]=>rfl
 |v::r=>by
  show lpC (tsL P l r) (A7t P l v) []=(List.flatMap _ _).take 2000
  rw[B11 _ _ _ (zero_le _),B0r P l r]
  rfl
theorem B0g:∀(l:List (List Va)),(∀x∈l,0<x.length)->(tsc l).length=min (prl l) 2000/\∀i<min (prl l) 2000,(tsc l).getD i []=pkF l (i:Int)
 |[],_=>⟨rfl,λi hi=>by
   have:i=0:=by have:prl []=1:=rfl;omega
   subst this;rfl⟩
 |c::r,h=>by
  have hr:∀x∈r,0<x.length:=λx hx=>h x (List.mem_cons_of_mem _ hx)
  have hc:=h c (List.mem_cons_self ..)
  obtain⟨h1,h2⟩:=B0g r hr
  have hp:=B0O r hr
  have e:prl (c::r)=c.length*prl r:=rfl
  have g1:prl r<=c.length*prl r:=Nat.le_mul_of_pos_left _ hc
  obtain⟨m,hm⟩:∃m,min (prl r) 2000=m:=⟨_,rfl⟩
  rw[hm]at h1 h2
  have g2:m<=c.length*m:=Nat.le_mul_of_pos_left _ hc
  have g3:min (c.length*m) 2000=min (c.length*prl r) 2000:=by
   by_cases h5:prl r<=2000
   .rw[show m=prl r by omega]
   have:m=2000:=by omega
   subst this;omega
  refine⟨?_,λi hi=>?_⟩
  .show (List.take 2000 _).length=_
   rw[length_take,B13,h1,e];omega
  show (List.take 2000 _).getD i []=_
  rw[e]at hi
  rw[List.getD_eq_getElem?_getD,List.getElem?_take,if_pos (by omega),B12 _ h1 (by omega) c i (by omega),B0p]
  show c.getD (i / m) va0::_=_
  by_cases h5:prl r<=2000
  .have:m=prl r:=by omega
   subst this
   have hq:i / prl r<c.length:=Nat.div_lt_of_lt_mul (by rw[Nat.mul_comm];omega)
   rw[Nat.mod_eq_of_lt hq,h2 _ (Nat.mod_lt _ hp),B0q]
  have:m=2000:=by omega
  subst this
  rw[Nat.div_eq_of_lt (show i<2000 by omega),Nat.mod_eq_of_lt (show i<2000 by omega),Nat.div_eq_of_lt (show i<prl r by omega),h2 i (by omega),Nat.zero_mod]
theorem B14{P:Pg}{f:List UInt8}{l:List Int}(h:∀x∈canF P f l,0<x.length/\x.length<=1000000000)(hf:(fnd f P.fs).isSome=true):
  ((tsF P f l).length:Int)=A9n (canF P f l)/\∀i:Nat,i<(tsF P f l).length->(tsF P f l).getD i []=pkF (canF P f l) (i:Int):=by
 cases hg:fnd f P.fs with
 |none=>rw[hg]at hf;cases hf
 |some g=>
  have e1:canF P f l=g.ps.map (A7t P l):=by unfold canF;rw[hg]
  have e2:tsF P f l=tsc (g.ps.map (A7t P l)):=by unfold tsF;rw[hg];exact B0r P l g.ps
  rw[e1]at h ⊢
  rw[e2]
  obtain⟨h1,h2⟩:=B0g _ λx hx=>(h x hx).1
  have:=B0V _ 1 h (Nat.le_refl _) (by decide)
  rw[Nat.one_mul]at this
  refine⟨?_,λi hi=>h2 i (by omega)⟩
  rw[h1]
  exact this.symm
theorem B1N{P:Pg}{f:List UInt8}{l:List Int}(hf:(fnd f P.fs).isSome=false):tsF P f l=[]:=by
 unfold tsF
 cases hg:fnd f P.fs with
 |none=>rfl
 |some g=>rw[hg]at hf;cases hf
theorem B15{l:List Va}{i:Nat}{x:Va}(h:l[i]?=some x)(z:List D):(l.map Va.r).getD i z=x.r:=by simp[List.getD,h]
def A9i(l:List Va):List C:=[.ov GA (l.map Va.c)]
theorem B1x(l:List Va):(l.map Va.r).map (λr=>r.map oD)=l.map Va.c:=by rw[List.map_map];rfl
theorem B1Y(l:List (List Va)):List.flatMap (λr=>List.flatMap C.names r) (l.map A9i)=[]:=List.flatMap_eq_nil_iff.2 λp hp=>by
 obtain⟨a,_,rfl⟩:=mem_map.1 hp
 rfl
theorem B1l(k t:Nat)(l:List (List Va)):(l.map A9i).map (λr=>r.map (mvC k t))=l.map A9i:=HU A9i (λ_=>rfl) l
theorem B1Z(l:List (List Va)):EZ (l.map A9i)=some (l.map nF):=Hi A9i (λx=>by
 simp only[A9i,GD,toD,kR,nF,GA]) l
theorem B1m(l:List Va):BS (l.map Va.c):=by
 intro r h c hc
 obtain⟨a,_,rfl⟩:=mem_map.1 h
 simp only[Va.c,List.mem_cons,List.not_mem_nil,or_false]at hc
 exact AAt
theorem B1y(l:List Va):((l.map Va.c).all λr=>r.all λc=>c.names.isEmpty)=true:=by
 rw[List.all_eq_true]
 exact AAl
def B0s(l:List Int):List Int:=if (l.length:Int)==0 then [0] else l
theorem B16(l:List Int):A4b l=(B0s l).map λn=>⟨false,n,[]⟩:=by
 unfold A4b B0s
 split<;>rfl
theorem B1I(a:Va){M:List (List Va)}(h:decide ((M.length:Int)<2000)=false):∀o,lpD a o M=M
 |[]=>rfl
 |o::r=>if_neg (by rw[h];decide)
theorem B1J(out:List (List Va)){M:List (List Va)}(h:decide ((M.length:Int)<2000)=false):∀w,lpC out w M=M
 |[]=>rfl
 |a::r=>if_neg (by rw[h];decide)
theorem B0h:∀(l:List (List Va)),∀o∈tsc l,o.length=l.length
 |[],o,h=>by rw[List.mem_singleton.1 h];rfl
 |c::r,o,h=>by
  obtain⟨a,_,h⟩:=List.mem_flatMap.1 (List.mem_of_mem_take h)
  obtain⟨x,hx,rfl⟩:=mem_map.1 h
  rw[length_cons,length_cons,B0h r x hx]
theorem B1n:∀(l:List (List Va)),(tsc l).length<=2000
 |[]=>by decide
 |c::r=>by show (List.take 2000 _).length<=_;rw[length_take];omega
theorem B17(P:Pg)(l:List Int)(ps:List Vr):(tsL P l ps).length<=2000/\∀o∈tsL P l ps,o.length=ps.length:=by
 rw[B0r]
 exact⟨B1n _,λo h=>(B0h _ o h).trans (length_map _)⟩
abbrev B07(p:Pg)(f:List UInt8)(l:List Int):Prop:=p.g.c.length<=1000000/\l.length<=2000/\p.fs.length<=1000000/\∀g∈p.fs,g.ps.length<=5000
abbrev wq(p:Pg)(f:List UInt8)(l:List Int):SV:=.one (.d (.sl v5 ((tsF p f l).map nF)))
noncomputable abbrev B08:ArgC ((Pg)×(List UInt8)×(List Int)×Unit):=(acS (cPg) (acS (cStr) (acS (cI6) ac0)))
abbrev B18:Prop:=Ca Tryz.prog 24 B08 (λp:(Pg)×(List UInt8)×(List Int)×Unit=>B07 p.1 p.2.1 p.2.2.1) (λp:(Pg)×(List UInt8)×(List Int)×Unit=>wq p.1 p.2.1 p.2.2.1)
attribute [local go_sem] Fn.c Va.c Va.r rM rL GM GL pgR kR ZS Jb B1x B1Z B1l B1Y H9 HV Hj Rx
set_option maxRecDepth 20000 in set_option maxHeartbeats 32000000 in
attribute[local go_sem] iD in
theorem B1K:B18:=by
 rintro ⟨p,f,l,_u⟩ w fz xs hc hfz hl hx
 refine Bg Tryz.func24 rfl w fz [H9] [(5,[.flag 28]),(23,[.fz 1000]),(31,[.fz 1001])] B08 (λp:(Pg)×(List UInt8)×(List Int)×Unit=>wq p.1 p.2.1 p.2.2.1) _ xs hfz hl hx (jN rfl) ?_
 clear hx hl hfz xs
 simp only[Tryz.f24]
 obtain⟨h1,h2,h3,h4⟩:=hc
 obtain⟨⟨pc,pa⟩,pf⟩:=p
 dsimp only at h1 h2 h3 h4
 cases hf:fnd f pf with
 |none=>
  have hz:fnSV (fnG f pf)= .tup [.inr Hj,.inl (.v (.bool false))]:=by rw[B0N,hf];rfl
  have hr:tsF ⟨⟨pc,pa⟩,pf⟩ f l=[]:=by unfold tsF;dsimp only;rw[hf]
  simp only[seval,go_sem,hz]
  refine⟨h3,?_⟩
  refine A1 [] ?_;simp only[seval,go_sem,bne,wq,hr]
 |some g=>
 have h4:=h4 g (eA hf)
 have hz:fnSV (fnG f pf)= .tup [.inr g.c,.inl (.v (.bool true))]:=by rw[B0N,hf];rfl
 have hr:tsF ⟨⟨pc,pa⟩,pf⟩ f l=tsL ⟨⟨pc,pa⟩,pf⟩ l g.ps:=by unfold tsF;dsimp only;rw[hf]
 obtain⟨gn,gp,gl,gb⟩:=g
 dsimp only at h4 hr
 have w0:IntKind.i64.wrap ((gp.length:Int)-1)=(gp.length:Int)-1:=wrap_i64 (by omega) (by omega)
 have e0:tsL ⟨⟨pc,pa⟩,pf⟩ l (gp.drop gp.length)=[[]]:=by rw[List.drop_length];rfl
 obtain⟨nm,hnm⟩:∃nm,B0s l=nm:=⟨_,rfl⟩
 have hnl:nm.length<=2000:=by rw[<- hnm];unfold B0s;split<;>first|exact h2|exact jN rfl
 have hin:A4b l=nm.map λn=>⟨false,n,[]⟩:=by rw[<- hnm];exact B16 l
 have h5:decide ((2000:Int)<(l.length:Int))=false:=decide_eq_false (by omega)
 rcases Bool.eq_false_or_eq_true ((l.length:Int)==0) with h0|h0
 case' inl=>
  have hn:nm=[0]:=by rw[<- hnm];exact if_pos h0
  simp only[seval,go_sem,hz,h0,w0]
 case' inr=>
  have hn:nm=l:=by rw[<- hnm];exact if_neg (by rw[h0];decide)
  simp only[seval,go_sem,hz,h0,h5,w0]
 all_goals
  refine⟨h3,?_⟩
  refine AC (Y:=Nat) (λk=>k<=gp.length)
   (λk=>⟨[(2,true,.one (.d (.sl zIw (nm.map iD)))),(3,true,.one (.p 3 0 0)),(7,true,.one (.p 7 0 0)),(9,true,.one (.d (.sl v5 ((tsL ⟨⟨pc,pa⟩,pf⟩ l (gp.drop k)).map nF)))),(10,true,.one (.v (.int .i64 ((k:Int)-1))))],[(3,Gb pc pa pf),(7,.vec 0 Rx [[.v (.string (bs gn)),.d (.sl zVr (gp.map Vr.r)),.d (.sl zVr (gl.map Vr.r)),.d (.sl zSm (gb.map Sm.r))]])]⟩)
   (λk=>k) gp.length (Nat.le_refl _) ?_ ?_
  .refine A2 [.nilr 34 0 0 1002 GA,.fold 34 0 0,.fz 34] ?_;simp only[seval,go_sem,e0,hn,A9m,v5,GA,IQ,nF]
  clear hn h0
  rintro k hk
  refine AP [H9] [(5,[.flag 28]),(23,[.fz 1000]),(31,[.fz 1001])] _ _ _ ?_
  cases k with
  |zero=>
   have e1:decide ((0:Int)<=((0:Nat):Int)-1)=false:=by decide
   simp only[seval,go_sem,e1]
   refine A1 [] ?_;simp only[seval,go_sem,bne,wq,hr]
  |succ k=>
   have e1:((k+1:Nat):Int)-1=(k:Int):=by omega
   have e2:decide ((0:Int)<=(k:Int))=true:=by simp
   have w4:IntKind.i64.wrap ((k:Int)-1)=(k:Int)-1:=wrap_i64 (by omega) (by omega)
   have hkl:(k:Int)<(gp.length:Int):=by omega
   obtain⟨v,hv0⟩:∃v,gp[k]?=some v:=⟨_,List.getElem?_eq_getElem hk⟩
   have hv:=A06 hv0
   obtain⟨o1,o2⟩:=B17 ⟨⟨pc,pa⟩,pf⟩ l (gp.drop (k+1))
   have hA0:tsL ⟨⟨pc,pa⟩,pf⟩ l (gp.drop k)=lpC (tsL ⟨⟨pc,pa⟩,pf⟩ l (gp.drop (k+1))) (A7t ⟨⟨pc,pa⟩,pf⟩ l v) []:=by rw[BF hv0];rfl
   generalize tsL ⟨⟨pc,pa⟩,pf⟩ l (gp.drop (k+1))=out at*
   obtain⟨vs,vp⟩:=v
   obtain⟨ow,how⟩:∃ow,A7t ⟨⟨pc,pa⟩,pf⟩ l ⟨vs,vp⟩=ow:=⟨_,rfl⟩
   rw[how]at hA0
   rcases vp with _|_
   case' false=>
    have how:A4b l=ow:=how
    simp only[seval,go_sem,e1,e2,hv,Vr.r]
    refine⟨⟨hkl,rfl⟩,?_⟩
    refine AC (Y:=Nat) (λq=>q<=nm.length)
     (λq=>⟨[(2,true,.one (.d (.sl zIw (nm.map iD)))),(3,true,.one (.p 3 0 0)),(7,true,.one (.p 7 0 0)),(9,true,.one (.d (.sl v5 (out.map nF)))),(10,true,.one (.v (.int .i64 (k:Int)))),(11,true,.one (.s 1000)),(13,true,.one (.v (.int .i64 (q:Int))))],[(3,Gb pc pa pf),(7,.vec 0 Rx [[.v (.string (bs gn)),.d (.sl zVr (gp.map Vr.r)),.d (.sl zVr (gl.map Vr.r)),.d (.sl zSm (gb.map Sm.r))]]),(1000,.vec 0 GA ((nU nm q).map Va.c))]⟩)
     (λq=>nm.length-q) 0 (zero_le _) ?_ ?_
    .refine A2 [.nil 11 1000 GA] ?_;simp only[seval,go_sem,GA,B0a]
    rintro q hq
    refine AP [H9] [(5,[.flag 28]),(23,[.fz 1000]),(31,[.fz 1001])] _ _ _ ?_
    have w1:IntKind.i64.wrap ((q:Int)+1)=((q+1:Nat):Int):=by rw[wrap_i64 (by omega) (by omega)];rfl
    rcases hx:nm[q]? with _|x
    rotate_left
    .have hlt:=(List.getElem?_eq_some_iff.1 hx).1
     have g1:=Ah hlt
     have hil:(q:Int)<(nm.length:Int):=by omega
     have hs:=A4X hx
     have hln:(nU nm q).length=q:=by simp[nU];omega
     have ht:((nU nm (q+1))).map Va.c=(nU nm q).map Va.c++[[.v (.bool false),.v (.int .i64 x),.v (.string (bs []))]]:=by
      unfold nU;rw[List.take_add_one,hx];simp[Va.c]
     simp only[seval,go_sem,g1,hs,w1]
     refine⟨hil,⟨⟨rfl,.inl rfl⟩,(λq h=>by cases h;rfl),gK _ _ _,(by decide),(by omega),(by omega)⟩,q+1,hlt,(by omega),BU (t:=⟨[(2,true,.one (.d (.sl zIw (nm.map iD)))),(3,true,.one (.p 3 0 0)),(7,true,.one (.p 7 0 0)),(9,true,.one (.d (.sl v5 (out.map nF)))),(10,true,.one (.v (.int .i64 (k:Int)))),(11,true,.one (.s 84)),(13,true,.one (.v (.int .i64 (((q+1:Nat)):Int))))],[(3,Gb pc pa pf),(7,.vec 0 Rx [[.v (.string (bs gn)),.d (.sl zVr (gp.map Vr.r)),.d (.sl zVr (gl.map Vr.r)),.d (.sl zSm (gb.map Sm.r))]]),(84,.vec 0 GA ((nU nm (q+1)).map Va.c))]⟩) ?_ ?_⟩
     .exact nD
     .refine A2 [.mv 84 1000] ?_;simp only[seval,go_sem]
    have g2:=List.getElem?_eq_none_iff.1 hx
    have g1:=Ai g2
    have ho:nU nm q=ow:=by unfold nU;rw[take_of_length_le g2,<- hin,how]
    have hol:ow.length<=1000001:=by rw[<- how,hin,length_map];omega
    simp only[seval,go_sem,g1,GA,ho]
   case' true=>
    have how:A7s ⟨⟨pc,pa⟩,pf⟩=ow:=how
    simp only[seval,go_sem,e1,e2,hv,Vr.r]
    refine⟨⟨hkl,rfl⟩,⟨(λq h=>by cases h;rfl),gK _ _ _⟩,?_⟩
    refine AC (Y:=Nat) (λq=>q<=pc.length)
     (λq=>⟨[(2,true,.one (.d (.sl zIw (nm.map iD)))),(3,true,.one (.p 3 0 0)),(7,true,.one (.p 7 0 0)),(9,true,.one (.d (.sl v5 (out.map nF)))),(10,true,.one (.v (.int .i64 (k:Int)))),(11,true,.one (.s 1000)),(12,true,.one (.v (.int .i64 (q:Int))))],[(3,Gb pc pa pf),(7,.vec 0 Rx [[.v (.string (bs gn)),.d (.sl zVr (gp.map Vr.r)),.d (.sl zVr (gl.map Vr.r)),.d (.sl zSm (gb.map Sm.r))]]),(1000,.vec 0 GA ((A9c pc q).map Va.c))]⟩)
     (λq=>pc.length-q) 0 (zero_le _) ?_ ?_
    .refine A2 [.mv 52 1000] ?_;simp only[seval,go_sem,GA,B0u]
    rintro q hq
    refine AP [H9] [(5,[.flag 28]),(23,[.fz 1000]),(31,[.fz 1001])] _ _ _ ?_
    have w1:IntKind.i64.wrap ((q:Int)+1)=((q+1:Nat):Int):=by rw[wrap_i64 (by omega) (by omega)];rfl
    rcases hx:pc[q]? with _|x
    rotate_left
    .have hlt:=(List.getElem?_eq_some_iff.1 hx).1
     have g1:=Ah hlt
     have hil:(q:Int)<(pc.length:Int):=by omega
     have hs:(pc.map cSd).getD q Fq=cSd x:=by simp[List.getD,hx]
     have hln:(A9c pc q).length=q+1:=by simp[A9c];omega
     have ht:(A9c pc (q+1)).map Va.c=(A9c pc q).map Va.c++[[.v (.bool true),.v (.int .i64 0),.v (.string (bs x))]]:=by
      unfold A9c;rw[List.take_add_one,hx];simp[Va.c]
     simp only[seval,go_sem,g1,hs,cSd,w1]
     refine⟨⟨hil,rfl⟩,⟨⟨rfl,.inl rfl⟩,(λq h=>by cases h;rfl),gK _ _ _,(by decide),(by omega),(by omega)⟩,q+1,hlt,(by omega),BU (t:=⟨[(2,true,.one (.d (.sl zIw (nm.map iD)))),(3,true,.one (.p 3 0 0)),(7,true,.one (.p 7 0 0)),(9,true,.one (.d (.sl v5 (out.map nF)))),(10,true,.one (.v (.int .i64 (k:Int)))),(11,true,.one (.s 70)),(12,true,.one (.v (.int .i64 (((q+1:Nat)):Int))))],[(3,Gb pc pa pf),(7,.vec 0 Rx [[.v (.string (bs gn)),.d (.sl zVr (gp.map Vr.r)),.d (.sl zVr (gl.map Vr.r)),.d (.sl zSm (gb.map Sm.r))]]),(70,.vec 0 GA ((A9c pc (q+1)).map Va.c))]⟩) ?_ ?_⟩
     .exact nD
     .refine A2 [.mv 70 1000] ?_;simp only[seval,go_sem]
    have g2:=List.getElem?_eq_none_iff.1 hx
    have g1:=Ai g2
    have ho:A9c pc q=ow:=by unfold A9c;rw[take_of_length_le g2,<- how];rfl
    have hol:ow.length<=1000001:=by rw[<- ho];simp[A9c];omega
    simp only[seval,go_sem,g1,GA,ho]
   all_goals
    clear ho hx g1 g2 hq w1
    refine AC (Y:=Nat×List (List Va)) (λz=>z.1<=ow.length/\z.2.length<=2000/\lpC out (ow.drop z.1) z.2=lpC out ow [])
     (λz=>⟨[(2,true,.one (.d (.sl zIw (nm.map iD)))),(3,true,.one (.p 3 0 0)),(7,true,.one (.p 7 0 0)),(9,true,.one (.d (.sl v5 (out.map nF)))),(10,true,.one (.v (.int .i64 (k:Int)))),(11,true,.one (.d (.sl IQ (ow.map Va.r)))),(14,true,.one (.s 1001)),(15,true,.one (.v (.int .i64 (z.1:Int))))],[(3,Gb pc pa pf),(7,.vec 0 Rx [[.v (.string (bs gn)),.d (.sl zVr (gp.map Vr.r)),.d (.sl zVr (gl.map Vr.r)),.d (.sl zSm (gb.map Sm.r))]]),(1001,.vec 0 A9m ((z.2).map A9i))]⟩)
     (λz=>ow.length-z.1) (0,[]) ⟨zero_le _,zero_le _,rfl⟩ ?_ ?_
    .refine A2 [.nil 14 1001 A9m] ?_;simp only[seval,go_sem,A9m]
    rintro ⟨q,M⟩ ⟨hq,hM,hJ⟩
    dsimp only at hq hM hJ
    refine AP [H9] [(5,[.flag 28]),(23,[.fz 1000]),(31,[.fz 1001])] _ _ _ ?_
    have w1:IntKind.i64.wrap ((q:Int)+1)=((q+1:Nat):Int):=by rw[wrap_i64 (by omega) (by omega)];rfl
    have hEX:M=lpC out ow []->tsL ⟨⟨pc,pa⟩,pf⟩ l (gp.drop k)=M:=λh=>by rw[hA0,h]
    cases hx:ow[q]? with
    |none=>
     have g2:=List.getElem?_eq_none_iff.1 hx
     have g1:=Ai g2
     rw[List.drop_eq_nil_of_le g2]at hJ
     have hA:=hEX hJ
     simp only[seval,go_sem,g1,w4,A9m]
     refine⟨k,(by omega),(by omega),?_⟩
     refine A2 [] ?_;simp only[seval,go_sem,hA,v5]
    |some a=>
     have hlt:=(List.getElem?_eq_some_iff.1 hx).1
     have g1:=Ah hlt
     have hil:(q:Int)<(ow.length:Int):=by omega
     have hva:=B15 hx
     cases h7:decide ((M.length:Int)<2000) with
     |false=>
      rw[B1J out h7]at hJ
      have hA:=hEX hJ
      simp only[seval,go_sem,g1,h7,w4,A9m]
      refine⟨k,(by omega),(by omega),?_⟩
      refine A2 [] ?_;simp only[seval,go_sem,hA,v5]
     |true=>
      have hJ1:lpC out (ow.drop (q+1)) (lpD a out M)=lpC out ow []:=by
       rw[<- hJ,BF hx];exact(if_pos h7).symm
      simp only[seval,go_sem,g1,h7]
      refine AC (Y:=Nat×List (List Va)) (λz=>z.1<=out.length/\z.2.length<=2000/\lpD a (out.drop z.1) z.2=lpD a out M)
       (λz=>⟨[(2,true,.one (.d (.sl zIw (nm.map iD)))),(3,true,.one (.p 3 0 0)),(7,true,.one (.p 7 0 0)),(9,true,.one (.d (.sl v5 (out.map nF)))),(10,true,.one (.v (.int .i64 (k:Int)))),(11,true,.one (.d (.sl IQ (ow.map Va.r)))),(14,true,.one (.s 1001)),(15,true,.one (.v (.int .i64 (q:Int)))),(16,true,.one (.v (.int .i64 (z.1:Int))))],[(3,Gb pc pa pf),(7,.vec 0 Rx [[.v (.string (bs gn)),.d (.sl zVr (gp.map Vr.r)),.d (.sl zVr (gl.map Vr.r)),.d (.sl zSm (gb.map Sm.r))]]),(1001,.vec 0 A9m (z.2.map A9i))]⟩)
       (λz=>out.length-z.1) (0,M) ⟨zero_le _,hM,rfl⟩ ?_ ?_
      .exact N4
      rintro ⟨j,K⟩ ⟨hj,hK,hJ2⟩
      dsimp only at hj hK hJ2
      refine AP [H9] [(5,[.flag 28]),(23,[.fz 1000]),(31,[.fz 1001])] _ _ _ ?_
      have w2:IntKind.i64.wrap ((j:Int)+1)=((j+1:Nat):Int):=by rw[wrap_i64 (by omega) (by omega)];rfl
      cases hy:out[j]? with
      |none=>
       have y2:=List.getElem?_eq_none_iff.1 hy
       have y1:=Ai y2
       rw[List.drop_eq_nil_of_le y2]at hJ2
       have hJ2:K=lpD a out M:=hJ2
       rw[<- hJ2]at hJ1
       simp only[seval,go_sem,y1,w1]
       refine⟨(q+1,K),⟨hlt,hK,hJ1⟩,(by dsimp only;omega),?_⟩
       exact N4
      |some x=>
       have ylt:=(List.getElem?_eq_some_iff.1 hy).1
       have y1:=Ah ylt
       have yil:(j:Int)<(out.length:Int):=by omega
       have hvx:=B0G hy
       have hxl:=o2 x (List.mem_of_getElem? hy)
       rw[List.length_drop]at hxl
       cases h8:decide ((K.length:Int)<2000) with
       |false=>
        rw[B1I a h8]at hJ2
        rw[<- hJ2]at hJ1
        simp only[seval,go_sem,y1,h8,w1]
        refine⟨(q+1,K),⟨hlt,hK,hJ1⟩,(by dsimp only;omega),?_⟩
        exact N4
       |true=>
        have hJ3:lpD a (out.drop (j+1)) (K++[a::x])=lpD a out M:=by
         rw[<- hJ2,BF hy];exact(if_pos h8).symm
        simp only[seval,go_sem,y1,h8,hva,hvx,w2]
        have hK8:=of_decide_eq_true h8
        have hrs:BS [[C.s 117]]:=by
         intro r h c hc
         rw[List.mem_singleton.1 h,List.mem_singleton]at hc
         subst hc;rfl
        have hge:(K.map A9i++[[C.s 117]])[K.length]?=some [C.s 117]:=by
         rw[List.getElem?_append_right (by rw[length_map];exact Nat.le_refl _),length_map,Nat.sub_self];rfl
        have hst:∀r:List C,(K.map A9i++[[C.s 117]]).set K.length r=K.map A9i++[r]:=by
         intro r
         rw[List.set_append_right _ _ (by rw[length_map];exact Nat.le_refl _),length_map,Nat.sub_self];rfl
        have ht:(K++[a::x]).map A9i=K.map A9i++[[.ov GA ((a::x).map Va.c)]]:=by simp[A9i]
        refine⟨hil,⟨yil,rfl⟩,⟨(λq h=>by cases h;rfl),B1m _,(by omega),(by omega)⟩,⟨⟨rfl,.inl rfl⟩,(λq h=>by cases h;rfl),hrs,(by decide),(by omega),(by omega)⟩,Bn (by kernel_rfl),(j+1,K++[a::x]),⟨ylt,(by rw[List.length_append,List.length_singleton];omega),hJ3⟩,(by dsimp only;omega),BU (t:=⟨[(2,true,.one (.d (.sl zIw (nm.map iD)))),(3,true,.one (.p 3 0 0)),(7,true,.one (.p 7 0 0)),(9,true,.one (.d (.sl v5 (out.map nF)))),(10,true,.one (.v (.int .i64 (k:Int)))),(11,true,.one (.d (.sl IQ (ow.map Va.r)))),(14,true,.one (.s 119)),(15,true,.one (.v (.int .i64 (q:Int)))),(16,true,.one (.v (.int .i64 (((j+1:Nat)):Int))))],[(3,Gb pc pa pf),(7,.vec 0 Rx [[.v (.string (bs gn)),.d (.sl zVr (gp.map Vr.r)),.d (.sl zVr (gl.map Vr.r)),.d (.sl zSm (gb.map Sm.r))]]),(119,.vec 0 A9m ((K++[a::x]).map A9i))]⟩) ?_ ?_⟩
        .refine A2 [.fold 119 K.length 0] ?_;simp only[seval,go_sem,hge,hst,ht,GA,B1y,List.flatMap_append,List.isEmpty_nil]
        .refine A2 [.mv 119 1001] ?_;simp only[seval,go_sem]
noncomputable def A9d{X:Ctx}{w0:World}:Sy.Spec Tryz.prog X w0:=Dq 24 Tryz.call24 B08 _ _ KF2 B1K
end Go.Proofs.YtapedeoheilnnaaGreat
