/- The document's state of a program, walked. Conditions: lengths. -/
import Derived.Test.YtjnnmindcbgjhaaOu
import Derived.Test.YtjnnmindcbgjhaaRmn
set_option linter.unusedVariables false
set_option linter.unusedSimpArgs false
set_option maxRecDepth 100000
set_option maxHeartbeats 16000000
open List (length_map)
namespace Go.Proofs.Ytjnnmindcbgjhaa
open Go Go.Sy Go.RowKit
theorem W7 {α:Type} (v:α) (s t:List UInt8):∀es:List (List UInt8×α),Ap (C2 es s v) t=if (s==t)=true then some v else Ap es t
 |[]=>by simp only[C2,Ap]
 |(k,x)::r=>by
  simp only[C2]
  split
  ·rename_i h
   have e:=eq_of_beq h
   subst e
   simp only[Ap]
   split<;>rfl
  ·rename_i h
   simp only[Ap,W7 v s t r]
   by_cases h1:(k==t)=true
   ·rw[if_pos h1]
    have h2:¬(s==t)=true:=by
     intro h2
     exact h (by rw[eq_of_beq h2];exact h1)
    rw[if_neg h2,if_pos h1]
   ·rw[if_neg h1,if_neg h1]
def idx (s:List UInt8):List (List UInt8)→Option Nat
 |[]=>none
 |x::r=>if (x==s)=true then some 0 else (idx s r).map (·+1)
theorem Zm (s:List UInt8):∀(l:List (List UInt8)) (i:Nat) (es:List (List UInt8×Int)),Ap (FZ l i es) s=match Ap es s with
  |some v=>some v
  |none=>(idx s l).map fun j=>((j+i:Nat):Int)
 |[],i,es=>by simp only[FZ,idx,Option.map_none];cases Ap es s<;>rfl
 |x::r,i,es=>by
  simp only[FZ,Zm s r (i+1),idx]
  cases hx:(Ap es x).isSome with
  |true=>
   rw[if_pos rfl]
   cases hs:Ap es s with
   |some v=>rfl
   |none=>
    have:¬(x==s)=true:=by
     intro h
     rw[eq_of_beq h,hs]at hx;cases hx
    rw[if_neg this]
    cases idx s r with
    |none=>rfl
    |some j=>simp only[Option.map_some];congr 2;omega
  |false=>
   rw[if_neg (by decide),W7]
   by_cases h:(x==s)=true
   ·have e:=eq_of_beq h
    subst e
    rw[if_pos h,if_pos h]
    cases hs:Ap es x with
    |some v=>rw[hs]at hx;cases hx
    |none=>simp
   ·rw[if_neg h,if_neg h]
    cases Ap es s with
    |some v=>rfl
    |none=>
     cases idx s r with
     |none=>rfl
     |some j=>simp only[Option.map_some];congr 2;omega
theorem eX (s:List UInt8) (l:List (List UInt8)):Ap (fI l) s=(idx s l).map Int.ofNat:=by
 unfold fI
 rw[Zm]
 cases idx s l<;>rfl
def lkN (s:List UInt8):List Nb→Int
 |[]=>0
 |x::r=>if (x.s==s)=true then x.n else lkN s r
def lkA (s:List UInt8) (d:List Int):List Na→List Int
 |[]=>d
 |x::r=>if (x.s==s)=true then cpL d x.l else lkA s d r
theorem Zn (s:List UInt8):∀l:List Nb,lkN s l=match idx s (l.map Nb.s) with
  |some j=>(l.getD j ⟨[],0⟩).n
  |none=>0
 |[]=>rfl
 |x::r=>by
  simp only[lkN,List.map_cons,idx]
  by_cases h:(x.s==s)=true
  ·rw[if_pos h,if_pos h];rfl
  ·rw[if_neg h,if_neg h,Zn s r]
   cases idx s (r.map Nb.s)<;>rfl
theorem Zo (s:List UInt8) (d:List Int):∀l:List Na,lkA s d l=match idx s (l.map Na.s) with
  |some j=>cpL d (l.getD j ⟨[],[]⟩).l
  |none=>d
 |[]=>rfl
 |x::r=>by
  simp only[lkA,List.map_cons,idx]
  by_cases h:(x.s==s)=true
  ·rw[if_pos h,if_pos h];rfl
  ·rw[if_neg h,if_neg h,Zo s d r]
   cases idx s (r.map Na.s)<;>rfl
theorem Xd (l:List Nb) (s:List UInt8):stN l ⟨s,0⟩=⟨s,lkN s l⟩:=by
 unfold stN
 dsimp only
 rw[eX,Zn]
 cases idx s (l.map Nb.s) with
 |none=>rfl
 |some j=>rfl
theorem pm (l:List Na) (s:List UInt8) (d:List Int):MO l ⟨s,d⟩=⟨s,lkA s d l⟩:=by
 unfold MO
 dsimp only
 rw[eX,Zo]
 cases idx s (l.map Na.s) with
 |none=>rfl
 |some j=>rfl
theorem wR {p:List (List UInt8)} {s:List Nb} {i:Nat} {x:List UInt8} (h:p[i]?=some x):(stCs (p.take (i+1)) s).map Nb.c=(stCs (p.take i) s).map Nb.c++[[.v (.string (bs x)),.v (.int .i64 (lkN x s))]]:=by
 rw[List.take_add_one,h]
 simp[stCs,blC,Xd,Nb.c]
theorem A1m {p:List Gy} {s:List Na} {i:Nat} {x:Gy} (h:p[i]?=some x):(stA (p.take (i+1)) s).map Na.c=(stA (p.take i) s).map Na.c++[[.v (.string (bs x.s)),.ov zI ((lkA x.s (List.replicate x.n.toNat 0) s).map cI)]]:=by
 rw[List.take_add_one,h]
 simp[stA,blA,pm,Na.c]
theorem Su (p:List (List UInt8)) (s:List Nb):(stCs p s).length=p.length:=by simp[stCs,blC]
theorem Xe (p:List Gy) (s:List Na):(stA p s).length=p.length:=by simp[stA,blA]
abbrev Kk (pc:List (List UInt8)) (pa:List Gy) (pf:List Fn):Ch:=.vec 0 [.v (.bool false),.v (.bool false),.v (.bool false)] [[.d (.sl H5 (pc.map cSd)),.d (.sl HU (pa.map Gy.r)),.d (.sl zFn (pf.map Fn.r))]]
abbrev Sv (sc:List Nb) (sa:List Na):Ch:=.vec 0 [.v (.bool false),.v (.bool false)] [[.d (.sl G6 (sc.map Nb.r)),.d (.sl G7 (sa.map Na.r))]]
theorem lM (k t:Nat) (l:List Int):(l.map cI).map (fun r=>r.map (mvC k t))=l.map cI:=G4 cI (fun _=>rfl) l
abbrev A6e:List C:=tgN 52 2
abbrev wS:List C:=tgN 68 2
abbrev Kl:List C:=tgN 44 2
abbrev RF (p:Pg) (s:Sta):Prop:=p.g.c.length≤1000000∧p.g.a.length≤1000000∧(∀x∈p.g.a,1≤x.n∧x.n≤1048576)∧s.cs.length≤1000000∧s.ar.length≤1000000
abbrev EY (p:Pg) (s:Sta):SV:=.agg (stR ⟨stCs p.g.c s.cs,stA p.g.a s.ar⟩)
noncomputable abbrev RG:ArgC ((Pg)×(Sta)×Unit):=(acS (cPg) (acS (cSta) ac0))
abbrev eY:Prop:=CY Try.prog 20 RG (fun p:(Pg)×(Sta)×Unit=>RF p.1 p.2.1) (fun p:(Pg)×(Sta)×Unit=>EY p.1 p.2.1)
theorem eZ:∀p:(Pg)×(Sta)×Unit,((fun p:(Pg)×(Sta)×Unit=>EY p.1 p.2.1) p).names=[]:=by intro p;rfl
attribute [local go_sem] Na.r Nb.r QD QC Nk PZ Ki Ja pgR stR
attribute[local go_sem] iD in
theorem io:eY:=by
 rintro ⟨p,s,_u⟩ w fz xs hc hfz hl hx
 refine BZ Try.func20 rfl w fz [] [] RG (fun p:(Pg)×(Sta)×Unit=>EY p.1 p.2.1) _ xs hfz hl hx (jN rfl) ?_
 clear hx hl hfz xs
 simp only[Try.f20]
 obtain⟨⟨pc,pa⟩,pf⟩:=p
 obtain⟨sc,sa⟩:=s
 obtain⟨h1,h2,h3,h4,h5⟩:=hc
 dsimp only at h1 h2 h3 h4 h5
 simp only[↓eB,seval,go_sem]
 refine AU (Y:=Nat) (fun i=>i≤pc.length)
  (fun i=>⟨[(2,true,.one (.p 2 0 0)),(3,true,.one (.p 3 0 0)),(4,true,.one (.p 4 0 0)),(5,true,.one (.p 5 0 0)),(6,true,.one (.v (.int .i64 (i:Int))))],
   [(2,Kk pc pa pf),(3,Sv sc sa),(4,.vec 0 Kl [[.v (.slice none 0 0),.v (.slice none 0 0)]]),(5,.vec 0 Kl [[.s 1000,.v (.slice none 0 0)]]),(1000,.vec 0 zNb ((stCs (pc.take i) sc).map Nb.c))]⟩)
  (fun i=>pc.length-i) 0 (Nat.zero_le _) ?_ ?_
 ·refine A2 [.nilr 5 0 0 1000 zNb] ?_;simp only[↓eB,seval,go_sem,zNb,stCs,blC]
 ·rintro i hi
  refine Ak [] [] _ _ _ ?_
  have w1:IntKind.i64.wrap ((i:Int)+1)=((i+1:Nat):Int):=by rw[wrap_i64 (by omega) (by omega)];rfl
  cases hx:pc[i]? with
  |none=>
   have g2:=List.getElem?_eq_none_iff.1 hx
   have g1:=BA g2
   simp only[↓eB,seval,go_sem,g1]
   rw[List.take_of_length_le g2]
   refine AU (Y:=Nat) (fun j=>j≤pa.length)
    (fun j=>⟨[(2,true,.one (.p 2 0 0)),(3,true,.one (.p 3 0 0)),(4,true,.one (.p 4 0 0)),(5,true,.one (.p 5 0 0)),(9,true,.one (.v (.int .i64 (j:Int))))],
     [(2,Kk pc pa pf),(3,Sv sc sa),(4,.vec 0 Kl [[.v (.slice none 0 0),.v (.slice none 0 0)]]),(5,.vec 0 Kl [[.s 1000,.s 1001]]),(1000,.vec 0 zNb ((stCs pc sc).map Nb.c)),(1001,.vec 0 zNa ((stA (pa.take j) sa).map Na.c))]⟩)
    (fun j=>pa.length-j) 0 (Nat.zero_le _) ?_ ?_
   ·refine A2 [.nilr 5 0 1 1001 zNa] ?_;simp only[↓eB,seval,go_sem,zNa,stA,blA]
   ·rintro j hj
    refine Ak [] [] _ _ _ ?_
    have w2:IntKind.i64.wrap ((j:Int)+1)=((j+1:Nat):Int):=by rw[wrap_i64 (by omega) (by omega)];rfl
    cases hy:pa[j]? with
    |none=>
     have k2:=List.getElem?_eq_none_iff.1 hy
     have k1:=BA k2
     simp only[↓eB,seval,go_sem,k1]
     rw[List.take_of_length_le k2]
     refine A0 [.fz 1000,.fz 1001] ?_;simp only[↓eB,seval,go_sem,bne,EY,XX,XY,XZ,Xa,zNb,zNa]
    |some y=>
     have hlt:=(List.getElem?_eq_some_iff.1 hy).1
     have k1:=B9 hlt
     have hjl:(j:Int)<(pa.length:Int):=by omega
     have hyn:=h3 y (List.mem_of_getElem? hy)
     have hgz:∀z,(pa.map Gy.r).getD j z=y.r:=by intro z;simp[List.getD,hy]
     obtain⟨ys,yn⟩:=y
     dsimp only at hyn
     have w3:IntKind.i64.wrap ((sa.length:Int)-1)=(sa.length:Int)-1:=wrap_i64 (by omega) (by omega)
     simp only[↓eB,seval,go_sem,k1,hgz,Gy.r,w3]
     have hm1:yn.toNat≤1048576:=by omega
     have hm0:0<yn.toNat:=by omega
     obtain⟨Z,hZ⟩:∃Z,List.replicate yn.toNat (0:Int)=Z:=⟨_,rfl⟩
     have hZc:List.replicate yn.toNat [C.v (.int .i64 0)]=Z.map cI:=by rw[← hZ,eE]
     have hZl:Z.length=yn.toNat:=by rw[← hZ];simp
     refine⟨⟨hjl,rfl⟩,⟨hjl,rfl⟩,⟨(by omega),(by omega),(by omega)⟩,C7 (by kernel_rfl),?_⟩
     refine AU (Y:=Nat) (fun kk=>kk≤sa.length)
      (fun kk=>⟨[(2,true,.one (.p 2 0 0)),(3,true,.one (.p 3 0 0)),(4,true,.one (.p 4 0 0)),(5,true,.one (.p 5 0 0)),(9,true,.one (.v (.int .i64 (j:Int)))),(10,true,.one (.p 10 0 0)),(11,true,.one (.v (.int .i64 ((kk:Int)-1))))],
       [(2,Kk pc pa pf),(3,Sv sc sa),(4,.vec 0 Kl [[.v (.slice none 0 0),.v (.slice none 0 0)]]),(5,.vec 0 Kl [[.s 1000,.s 1001]]),(1000,.vec 0 zNb ((stCs pc sc).map Nb.c)),(1001,.vec 0 zNa ((stA (pa.take j) sa).map Na.c)),(10,.vec 0 wS [[.v (.string (bs ys)),.s 1002]]),(1002,.vec 0 zI ((lkA ys Z (sa.drop kk)).map cI))]⟩)
      (fun kk=>kk) sa.length (Nat.le_refl _) ?_ ?_
     ·refine A2 [.mv 79 1002] ?_;simp only[↓eB,seval,go_sem,lkA,List.drop_length,hZc,zI,Hr,Kj,S3,lM]
     ·rintro kk hk
      refine Ak [] [] _ _ _ ?_
      cases kk with
      |zero=>
       have e0:decide ((0:Int)≤((0:Nat):Int)-1)=false:=by decide
       simp only[↓eB,seval,go_sem,e0,w2]
       generalize hL:lkA ys Z sa=L
       have hrs:B4 [[C.v (Value.string (bs ys)),C.s 1002]]:=by
        intro r h c hc
        simp only[List.mem_singleton]at h
        subst h
        simp only[List.mem_cons,List.not_mem_nil,or_false]at hc
        rcases hc with rfl|rfl<;>rfl
       have hln:(stA (List.take j pa) sa).length=j:=by rw[Xe,List.length_take];omega
       have ht:=A1m (s:=sa) hy
       dsimp only at ht
       rw[hZ,hL]at ht
       have hge:((stA (pa.take j) sa).map Na.c++[[C.v (.string (bs ys)),C.s 1002]])[j]?=some [C.v (.string (bs ys)),C.s 1002]:=by
        rw[List.getElem?_append_right (by rw[length_map,hln];exact Nat.le_refl _),length_map,hln,Nat.sub_self];rfl
       have hst:∀r:List C,((stA (pa.take j) sa).map Na.c++[[C.v (.string (bs ys)),C.s 1002]]).set j r=(stA (pa.take j) sa).map Na.c++[r]:=by
        intro r
        rw[List.set_append_right _ _ (by rw[length_map,hln];exact Nat.le_refl _),length_map,hln,Nat.sub_self];rfl
       refine⟨⟨⟨rfl,.inl rfl⟩,(fun q h=>by cases h;rfl),hrs,(by decide),(by rw[hln];omega),(by rw[hln];omega)⟩,j+1,hlt,(by omega),BS (t:=⟨[(2,true,.one (.p 2 0 0)),(3,true,.one (.p 3 0 0)),(4,true,.one (.p 4 0 0)),(5,true,.one (.p 5 0 0)),(9,true,.one (.v (.int .i64 ((j+1:Nat):Int))))],
        [(2,Kk pc pa pf),(3,Sv sc sa),(4,.vec 0 Kl [[.v (.slice none 0 0),.v (.slice none 0 0)]]),(5,.vec 0 Kl [[.s 1000,.s 120]]),(1000,.vec 0 zNb ((stCs pc sc).map Nb.c)),(120,.vec 0 zNa ((stA (pa.take (j+1)) sa).map Na.c))]⟩) ?_ ?_⟩
       ·refine A2 [.fold 120 j 1] ?_;simp only[↓eB,seval,go_sem,hge,hst,ht,Hr,Kj,bE,zI,List.flatMap_append,List.map_append]
       ·refine A2 [.mv 120 1001] ?_;simp only[↓eB,seval,go_sem,Hr,Kj]
      |succ k=>
       have e1:((k+1:Nat):Int)-1=(k:Int):=by omega
       have e2:decide ((0:Int)≤(k:Int))=true:=by simp
       have w4:IntKind.i64.wrap ((k:Int)-1)=(k:Int)-1:=wrap_i64 (by omega) (by omega)
       have hkl:(k:Int)<(sa.length:Int):=by omega
       have hq0:sa[k]?=some (sa.getD k ⟨[],[]⟩):=by rw[List.getD,List.getElem?_eq_getElem hk];rfl
       generalize sa.getD k ⟨[],[]⟩=q at hq0
       have hz:=X8 hq0
       have hd:lkA ys Z (sa.drop k)=if (q.s==ys)=true then cpL Z q.l else lkA ys Z (sa.drop (k+1)):=by rw[Bp hq0];rfl
       obtain⟨qs,ql⟩:=q
       dsimp only at hd
       cases hq:(qs==ys) with
       |true=>
        rw[hq,if_pos rfl]at hd
        have hcp:=Zd Z ql
        simp only[length_map]at hcp
        simp only[↓eB,seval,go_sem,e1,e2,w4,hz,hq,hgz,Gy.r,hZc]
        refine⟨hkl,C7 (by kernel_rfl),⟨hjl,rfl⟩,⟨(by omega),(by omega),(by omega)⟩,hkl,⟨(by omega),(fun q h=>by cases h;rfl),lL ql⟩,C7 (by kernel_rfl),k,Nat.le_of_lt hk,Nat.lt_succ_self k,BS (t:=⟨[(2,true,.one (.p 2 0 0)),(3,true,.one (.p 3 0 0)),(4,true,.one (.p 4 0 0)),(5,true,.one (.p 5 0 0)),(9,true,.one (.v (.int .i64 (j:Int)))),(10,true,.one (.p 10 0 0)),(11,true,.one (.v (.int .i64 ((k:Int)-1))))],
         [(2,Kk pc pa pf),(3,Sv sc sa),(4,.vec 0 Kl [[.v (.slice none 0 0),.v (.slice none 0 0)]]),(5,.vec 0 Kl [[.s 1000,.s 1001]]),(1000,.vec 0 zNb ((stCs pc sc).map Nb.c)),(1001,.vec 0 zNa ((stA (pa.take j) sa).map Na.c)),(10,.vec 0 wS [[.v (.string (bs ys)),.s 105]]),(105,.vec 1 zI ((cpL Z ql).map cI))]⟩) ?_ ?_⟩
        ·refine A2 [] ?_;simp only[↓eB,seval,go_sem,hcp,zI,S3]
        ·refine A2 [.mv 105 1002] ?_;simp only[↓eB,seval,go_sem,hd,zI,Hr,Kj,lM,S3]
       |false=>
        rw[hq,if_neg (by decide)]at hd
        simp only[↓eB,seval,go_sem,e1,e2,w4,hz,hq]
        refine⟨hkl,C7 (by kernel_rfl),k,Nat.le_of_lt hk,Nat.lt_succ_self k,?_⟩
        refine A2 [] ?_;simp only[↓eB,seval,go_sem,hd,S3]
  |some x=>
   have hlt:=(List.getElem?_eq_some_iff.1 hx).1
   have g1:=B9 hlt
   have hil:(i:Int)<(pc.length:Int):=by omega
   have hs:(pc.map cSd).getD i H5=cSd x:=by simp[List.getD,hx]
   have w2:IntKind.i64.wrap ((sc.length:Int)-1)=(sc.length:Int)-1:=wrap_i64 (by omega) (by omega)
   simp only[↓eB,seval,go_sem,g1,hs,cSd,w2]
   refine⟨⟨hil,rfl⟩,?_⟩
   refine AU (Y:=Nat) (fun kk=>kk≤sc.length)
    (fun kk=>⟨[(2,true,.one (.p 2 0 0)),(3,true,.one (.p 3 0 0)),(4,true,.one (.p 4 0 0)),(5,true,.one (.p 5 0 0)),(6,true,.one (.v (.int .i64 (i:Int)))),(7,true,.one (.p 7 0 0)),(8,true,.one (.v (.int .i64 ((kk:Int)-1))))],
     [(2,Kk pc pa pf),(3,Sv sc sa),(4,.vec 0 Kl [[.v (.slice none 0 0),.v (.slice none 0 0)]]),(5,.vec 0 Kl [[.s 1000,.v (.slice none 0 0)]]),(1000,.vec 0 zNb ((stCs (pc.take i) sc).map Nb.c)),(7,.vec 0 A6e [[.v (.string (bs x)),.v (.int .i64 (lkN x (sc.drop kk)))]])]⟩)
    (fun kk=>kk) sc.length (Nat.le_refl _) ?_ ?_
   ·refine A2 [] ?_;simp only[↓eB,seval,go_sem,lkN,List.drop_length]
   ·rintro kk hk
    refine Ak [] [] _ _ _ ?_
    cases kk with
    |zero=>
     have e0:decide ((0:Int)≤((0:Nat):Int)-1)=false:=by decide
     simp only[↓eB,seval,go_sem,e0,w1]
     have hrs:B4 [[C.v (Value.string (bs x)),C.v (Value.int IntKind.i64 (lkN x sc))]]:=by
      intro r h c hc
      simp only[List.mem_singleton]at h
      subst h
      simp only[List.mem_cons,List.not_mem_nil,or_false]at hc
      rcases hc with rfl|rfl<;>rfl
     have hln:(stCs (List.take i pc) sc).length=i:=by rw[Su,List.length_take];omega
     have ht:=wR (s:=sc) hx
     refine⟨⟨⟨rfl,.inl rfl⟩,(fun q h=>by cases h;rfl),hrs,(by decide),(by rw[hln];omega),(by rw[hln];omega)⟩,i+1,hlt,(by omega),BS (t:=⟨[(2,true,.one (.p 2 0 0)),(3,true,.one (.p 3 0 0)),(4,true,.one (.p 4 0 0)),(5,true,.one (.p 5 0 0)),(6,true,.one (.v (.int .i64 ((i+1:Nat):Int))))],
      [(2,Kk pc pa pf),(3,Sv sc sa),(4,.vec 0 Kl [[.v (.slice none 0 0),.v (.slice none 0 0)]]),(5,.vec 0 Kl [[.s 55,.v (.slice none 0 0)]]),(55,.vec 0 zNb ((stCs (pc.take (i+1)) sc).map Nb.c))]⟩) ?_ ?_⟩
     ·refine A2 [] ?_;simp only[↓eB,seval,go_sem,ht,List.map_append,List.flatMap_append]
     ·refine A2 [.mv 55 1000] ?_;simp only[↓eB,seval,go_sem,Hr]
    |succ k=>
     have e1:((k+1:Nat):Int)-1=(k:Int):=by omega
     have e2:decide ((0:Int)≤(k:Int))=true:=by simp
     have w3:IntKind.i64.wrap ((k:Int)-1)=(k:Int)-1:=wrap_i64 (by omega) (by omega)
     have hkl:(k:Int)<(sc.length:Int):=by omega
     have hy:sc[k]?=some (sc.getD k ⟨[],0⟩):=by rw[List.getD,List.getElem?_eq_getElem hk];rfl
     generalize sc.getD k ⟨[],0⟩=y at hy
     have hz:=cz hy
     have hd:lkN x (sc.drop k)=if (y.s==x)=true then y.n else lkN x (sc.drop (k+1)):=by rw[Bp hy];rfl
     obtain⟨ys,yn⟩:=y
     dsimp only at hd
     cases hq:(ys==x) with
     |true=>
      rw[hq,if_pos rfl]at hd
      simp only[↓eB,seval,go_sem,e1,e2,w3,hz,hq]
      refine⟨hkl,C7 (by kernel_rfl),hkl,?_⟩
      refine⟨k,Nat.le_of_lt hk,Nat.lt_succ_self k,?_⟩
      refine A2 [] ?_;simp only[↓eB,seval,go_sem,hd]
     |false=>
      rw[hq,if_neg (by decide)]at hd
      simp only[↓eB,seval,go_sem,e1,e2,w3,hz,hq]
      refine⟨hkl,C7 (by kernel_rfl),?_⟩
      refine⟨k,Nat.le_of_lt hk,Nat.lt_succ_self k,?_⟩
      refine A2 [] ?_;simp only[↓eB,seval,go_sem,hd]
noncomputable def GL {X:Ctx} {w0:World}:Sy.Spec Try.prog X w0:=D4 20 Try.call20 RG (fun p:(Pg)×(Sta)×Unit=>RF p.1 p.2.1) (fun p:(Pg)×(Sta)×Unit=>EY p.1 p.2.1) eZ io
end Go.Proofs.Ytjnnmindcbgjhaa
namespace Go.Proofs.Ytjnnmindcbgjhaa
open Go Go.Sy Go.RowKit
end Go.Proofs.Ytjnnmindcbgjhaa
namespace Go.Proofs.Ytjnnmindcbgjhaa
open Go Go.Sy Go.RowKit
noncomputable def rI6:RowC Int:=rowOf zIw iD XR fun _=>rfl
theorem A1n:rI6.e=iD:=rfl
theorem A1o:rI6.z=zIw:=rfl
theorem A1p (n:Int):rI6.d [.v (.int .i64 n)]=some n:=rI6.i n
theorem wT:zIw.length=1:=rfl
theorem po (l:List Int):Oe rI6.d (l.map iD)=some l:=Qa rI6 l
theorem wU (s t:List UInt8) (n x y:Int):cSta.d (.agg [.d (.sl [.v (.string (bs [])),.v (.int .i64 0)] [[.v (.string (bs s)),.v (.int .i64 n)]]),.d (.sl [.v (.string (bs [])),.v (.slice none 0 0)] [[.v (.string (bs t)),.sl [.v (.int .i64 0)] [[.v (.int .i64 x)],[.v (.int .i64 y)]]]])])=some ⟨[⟨s,n⟩],[⟨t,[x,y]⟩]⟩:=Nk [⟨s,n⟩] [⟨t,[x,y]⟩]
theorem A1q (s t f:List UInt8) (n x y e v al k:Int):cOu.d (.agg [.v (.int .i64 e),.v (.int .i64 v),.v (.string (bs f)),.v (.int .i64 al),.v (.int .i64 k),.d (.sl [.v (.string (bs [])),.v (.int .i64 0)] [[.v (.string (bs s)),.v (.int .i64 n)]]),.d (.sl [.v (.string (bs [])),.v (.slice none 0 0)] [[.v (.string (bs t)),.sl [.v (.int .i64 0)] [[.v (.int .i64 x)],[.v (.int .i64 y)]]]])])=some ⟨e,v,f,al,k,⟨[⟨s,n⟩],[⟨t,[x,y]⟩]⟩⟩:=ax e v al k f [⟨s,n⟩] [⟨t,[x,y]⟩]
def aP:Pg:=⟨⟨[[99]],[⟨[116],2⟩]⟩,[⟨[102],[⟨[120],false⟩],[],[(.mk 0 [99] [] (.mk 2 0 [] (.mk 4 0 [] (.mk 1 0 [99] .nil .nil) (.mk 0 3 [] .nil .nil)) (.mk 1 0 [120] .nil .nil)) .nil .nil [] [] [] 0),(.mk 6 [120] [116] (.mk 0 1 [] .nil .nil) .nil .nil [] [] [] 1),(.mk 7 [] [116] (.mk 0 0 [] .nil .nil) (.mk 1 0 [120] .nil .nil) .nil [] [] [] 2),(.mk 7 [] [116] (.mk 0 1 [] .nil .nil) (.mk 1 0 [99] .nil .nil) .nil [] [] [] 3),(.mk 9 [] [] (.mk 1 0 [99] .nil .nil) .nil .nil [] [] [] 4)]⟩]⟩
abbrev iq:List C:=tgN 33 3
structure agS (a:Sta) (B x y:Int):Prop where
 c:stCs aP.g.c a.cs=[⟨[99],B⟩]
 a:stA aP.g.a a.ar=[⟨[116],[x,y]⟩]
end Go.Proofs.Ytjnnmindcbgjhaa
namespace Go.Proofs.Ytjnnmindcbgjhaa
open Go Go.Sy Go.RowKit Go.ChangeShapes Go.WideShapes Go.ChangeAt
section
variable {H:Type} {enc:TypeId×Value→H} {W:World}
theorem ir (fuel:Nat):IJ enc Try.prog W 23 fuel (fun l:List Int=>[.sl zIw (l.map iD)]) (fun l=>l.length≤maxLen∧∀x∈l,bK x):=by
 cases fuel with
 |zero=>exact HG
 |succ n=>exact LD id _ _ (KS Try.underlying23 zIw (by kernel_rfl) (by decide) (Se Try.underlying2)) (fun _=>rfl) (fun _ h=>⟨h.1,fun x hx=>Zl (h.2 x hx)⟩)
theorem wV (fuel:Nat):IJ enc Try.prog W 52 fuel Nb.r (fun _=>True):=by
 cases fuel with
 |zero=>exact HG
 |succ n=>
  exact LD (fun p:List UInt8×Int×Unit=>(⟨p.1,p.2.1⟩:Nb)) _ _ (OR Try.underlying52 (n:=2) (by kernel_rfl)
   (KD (m:=1) (n:=1) rfl (by kernel_rfl) (X7 Try.underlying9) (KD (m:=1) (n:=0) rfl (by kernel_rfl) (Se Try.underlying2) (Sg _)))) (fun _=>rfl) (fun p hp=>trivial)
theorem wW (fuel:Nat):IJ enc Try.prog W 68 fuel Na.r (fun x=>x.l.length≤maxLen):=by
 cases fuel with
 |zero=>exact HG
 |succ n=>
  exact LD (fun p:List UInt8×List Int×Unit=>(⟨p.1,p.2.1⟩:Na)) _ _ (OR Try.underlying68 (n:=2) (by kernel_rfl)
   (KD (m:=1) (n:=1) rfl (by kernel_rfl) (X7 Try.underlying9) (KD (m:=1) (n:=0) rfl (by kernel_rfl) (ir n) (Sg _)))) (fun _=>rfl) (fun p hp=>hp.2.1.1)
theorem pq (fuel:Nat):IJ enc Try.prog W 41 fuel (fun l:List Nb=>[.sl G6 (l.map Nb.r)]) (fun l=>l.length≤maxLen):=by
 cases fuel with
 |zero=>exact HG
 |succ n=>exact LD id _ _ (KS Try.underlying41 G6 (by kernel_rfl) (by decide) (wV n)) (fun _=>rfl) (fun _ h=>h.1)
theorem pr (fuel:Nat):IJ enc Try.prog W 42 fuel (fun l:List Na=>[.sl G7 (l.map Na.r)]) (fun l=>l.length≤maxLen∧∀x∈l,x.l.length≤maxLen):=by
 cases fuel with
 |zero=>exact HG
 |succ n=>exact KS Try.underlying42 G7 (by kernel_rfl) (by decide) (wW n)
def A6f (s:Sta):List D:=[.sl G6 (s.cs.map Nb.r),.sl G7 (s.ar.map Na.r)]
theorem pu (fuel:Nat):IJ enc Try.prog W 44 fuel A6f (fun s=>s.cs.length≤maxLen∧s.ar.length≤maxLen∧∀x∈s.ar,x.l.length≤maxLen):=by
 cases fuel with
 |zero=>exact HG
 |succ n=>
  exact LD (fun p:List Nb×List Na×Unit=>(⟨p.1,p.2.1⟩:Sta)) _ _ (OR Try.underlying44 (n:=2) (by kernel_rfl)
   (KD (m:=1) (n:=1) rfl (by kernel_rfl) (pq n) (KD (m:=1) (n:=0) rfl (by kernel_rfl) (pr n) (Sg _)))) (fun _=>rfl) (fun p hp=>⟨hp.1,hp.2.1.1,hp.2.1.2⟩)
variable {base:Nat} {v:Value} {d:DataW H} {p:List MemPlace}
theorem iu (hv:Value.okWide Try.prog W .any base 44 v) (h:DataW.Trod enc Try.prog W 0 (fun _=>true) true 44 v d p) :
  ∃s:Sta,(s.cs.length≤maxLen∧s.ar.length≤maxLen∧∀x∈s.ar,x.l.length≤maxLen)∧CD (hp W) (fun b=>b<W.heap.size) (.agg (stR s)) v:=
 ga (aw Try.underlying44 hv) h pu
end
end Go.Proofs.Ytjnnmindcbgjhaa
namespace Go.Proofs.Ytjnnmindcbgjhaa
open Go Go.Sy Go.RowKit
def OU:List C:=[.v (.bool false),.v (.int .i64 0),.v (.string (bs []))]
theorem wX (l:List Va):List.flatMap (fun r=>List.flatMap C.names r) (l.map Va.c)=[]:=List.flatMap_eq_nil_iff.2 fun p hp=>by
 obtain⟨a,_,rfl⟩:=List.mem_map.1 hp
 rfl
theorem A1r (k t:Nat) (l:List Va):(l.map Va.c).map (fun r=>r.map (mvC k t))=l.map Va.c:=G4 Va.c (fun _=>rfl) l
theorem wY (l:List Va):D3 (l.map Va.c)=some (l.map Va.r):=FM Va.c (fun _=>rfl) l
noncomputable def cI6:Cod (List Int):=Gn (fun l=>.one (.d (.sl zIw (l.map iD)))) (fun v a b h h'=>by
 cases v with
 |one c=>exact Az XR (F0 h h')
 |agg l=>exact h.elim
 |tup l=>exact h.elim) (fun l=>rfl)
theorem lN (l:List Int):cI6.e l= .one (.d (.sl zIw (l.map iD))):=rfl
theorem bP (l:List Int):cI6.d (.one (.d (.sl zIw (l.map iD))))=some l:=D9 (e:=fun l:List Int=>.one (.d (.sl zIw (l.map iD)))) (Dp _)
theorem wZ (x:Int):cI6.d (.one (.d (.sl [.v (.int .i64 0)] [[.v (.int .i64 x)]])))=some [x]:=bP [x]
def A6g (P:Pg):List Va:=⟨true,0,[]⟩::P.g.c.map fun c=>⟨true,0,c⟩
def A1s (l:List Int):List Va:=if (l.length:Int)==0 then [⟨false,0,[]⟩] else l.map fun n=>⟨false,n,[]⟩
end Go.Proofs.Ytjnnmindcbgjhaa
namespace Go.Proofs.Ytjnnmindcbgjhaa
open Go Go.Sy Go.RowKit
def fnd (f:List UInt8):List Fn→Option Fn
 |[]=>none
 |g::r=>if (g.name==f)=true then some g else fnd f r
def A6h (P:Pg) (l:List Int) (v:Vr):List Va:=if v.p=true then A6g P else A1s l
def iv (P:Pg) (f:List UInt8) (l:List Int):List (List Va):=match fnd f P.fs with
 |some g=>g.ps.map (A6h P l)
 |none=>[]
theorem wa {l:List Vr} {i:Nat} {x:Vr} (h:l[i]?=some x) (z:List D):(l.map Vr.r).getD i z=x.r:=by simp[List.getD,h]
theorem wc {l:List Fn} {i:Nat} {x:Fn} (h:l[i]?=some x) (z:List D):(l.map Fn.r).getD i z=x.r:=by simp[List.getD,h]
end Go.Proofs.Ytjnnmindcbgjhaa
namespace Go.Proofs.Ytjnnmindcbgjhaa
open Go Go.Sy Go.RowKit
def pkR:List (List Va)→Int→List Va×Int
 |[],n=>([],n)
 |c::r,n=>(c.getD ((pkR r n).2.tmod (c.length:Int)).toNat va0::(pkR r n).1,(pkR r n).2.tdiv (c.length:Int))
def pkF (l:List (List Va)) (n:Int):List Va:=(pkR l n).1
end Go.Proofs.Ytjnnmindcbgjhaa
namespace Go.Proofs.Ytjnnmindcbgjhaa
open Go Go.Sy Go.RowKit
theorem Zp {f:List UInt8} {g:Fn}:∀{l:List Fn},fnd f l=some g→g∈l
 |x::r,h=>by
  simp only[fnd]at h
  split at h
  ·rw[Option.some.inj h];exact List.mem_cons_self ..
  ·exact List.mem_cons_of_mem _ (Zp h)
theorem iw {P:Pg} {f:List UInt8} {l:List Int} (h:∀g∈P.fs,g.ps.length≤5000):(iv P f l).length≤5000:=by
 unfold iv
 cases hf:fnd f P.fs with
 |none=>exact Nat.zero_le _
 |some g=>dsimp only;rw[length_map];exact h g (Zp hf)
theorem pv (l:List (List Va)) (n:Int):(pkF l n).length=l.length:=by
 unfold pkF
 induction l with
 |nil=>rfl
 |cons c r ih=>show (pkR r n).1.length+1=_;rw[ih];rfl
def blS (P:Pg):Sta:=⟨blC P.g.c,blA P.g.a⟩
structure okW (N n:Nat) (P:Pg) (l:List Int) (fuel:Int):Prop where
 p:okPg N P
 c:P.g.c.length≤1000000
 a:P.g.a.length≤1000000
 q:∀x∈P.g.a,1≤x.n∧x.n≤1048576
 i:l.length≤1000000
 f:fuel<n
 n:n≤1000000000
theorem okW.ps {N n:Nat} {P:Pg} {l:List Int} {fuel:Int} (h:okW N n P l fuel):∀g∈P.fs,g.ps.length≤5000:=fun g hg=>(h.p.f g hg).1.1
theorem okW.r {N n:Nat} {P:Pg} {l:List Int} {fuel:Int} (h:okW N n P l fuel) (f:List UInt8) (i:Int):okR N n P (pkF (iv P f l) i) (blS P) fuel:=
 ⟨h.p,h.c,h.a,h.q,by simp[blS,blC];exact h.c,by simp[blS,blA];exact h.a,by rw[pv];exact iw h.ps,h.f,h.n⟩
end Go.Proofs.Ytjnnmindcbgjhaa
namespace Go.Proofs.Ytjnnmindcbgjhaa
open Go Go.Sy Go.RowKit
end Go.Proofs.Ytjnnmindcbgjhaa
