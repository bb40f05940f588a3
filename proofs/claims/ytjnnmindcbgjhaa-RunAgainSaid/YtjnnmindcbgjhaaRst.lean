/- The document's state of a program, walked. Conditions: lengths. -/
import Derived.Test.YtjnnmindcbgjhaaOu
set_option linter.unusedVariables false
set_option linter.unusedSimpArgs false
namespace Go.Proofs.Ytjnnmindcbgjhaa
open Go Go.Sy Go.RowKit
theorem mget_mput {α:Type} (v:α) (s t:List UInt8):∀es:List (List UInt8×α),mget (mput es s v) t=if (s==t)=true then some v else mget es t
 |[]=>by simp only[mput,mget]
 |(k,x)::r=>by
  simp only[mput]
  split
  ·rename_i h
   have e:=eq_of_beq h
   subst e
   simp only[mget]
   split<;>rfl
  ·rename_i h
   simp only[mget,mget_mput v s t r]
   by_cases h1:(k==t)=true
   ·rw[if_pos h1]
    have h2:¬(s==t)=true:=by
     intro h2
     exact h (by rw[eq_of_beq h2];exact h1)
    rw[if_neg h2,if_pos h1]
   ·rw[if_neg h1,if_neg h1]
def idx (s:List UInt8):List (List UInt8)→Option Nat
 |[]=>none
 |x::r=>if (x==s)=true then some 0 else (idx s r).map (·+1)
theorem fst_idx (s:List UInt8):∀(l:List (List UInt8)) (i:Nat) (es:List (List UInt8×Int)),mget (fstL l i es) s=match mget es s with
  |some v=>some v
  |none=>(idx s l).map fun j=>((j+i:Nat):Int)
 |[],i,es=>by simp only[fstL,idx,Option.map_none];cases mget es s<;>rfl
 |x::r,i,es=>by
  simp only[fstL,fst_idx s r (i+1),idx]
  cases hx:(mget es x).isSome with
  |true=>
   rw[if_pos rfl]
   cases hs:mget es s with
   |some v=>rfl
   |none=>
    have:¬(x==s)=true:=by
     intro h
     rw[eq_of_beq h,hs]at hx;cases hx
    rw[if_neg this]
    cases idx s r with
    |none=>rfl
    |some j=>simp only[Option.map_some];congr 2;omega
  |false=>
   rw[if_neg (by decide),mget_mput]
   by_cases h:(x==s)=true
   ·have e:=eq_of_beq h
    subst e
    rw[if_pos h,if_pos h]
    cases hs:mget es x with
    |some v=>rw[hs]at hx;cases hx
    |none=>simp
   ·rw[if_neg h,if_neg h]
    cases mget es s with
    |some v=>rfl
    |none=>
     cases idx s r with
     |none=>rfl
     |some j=>simp only[Option.map_some];congr 2;omega
theorem fI_idx (s:List UInt8) (l:List (List UInt8)):mget (fI l) s=(idx s l).map Int.ofNat:=by
 unfold fI
 rw[fst_idx]
 cases idx s l<;>rfl
def lkN (s:List UInt8):List Nb→Int
 |[]=>0
 |x::r=>if (x.s==s)=true then x.n else lkN s r
def lkA (s:List UInt8) (d:List Int):List Na→List Int
 |[]=>d
 |x::r=>if (x.s==s)=true then cpL d x.l else lkA s d r
theorem lkN_idx (s:List UInt8):∀l:List Nb,lkN s l=match idx s (l.map Nb.s) with
  |some j=>(l.getD j ⟨[],0⟩).n
  |none=>0
 |[]=>rfl
 |x::r=>by
  simp only[lkN,List.map_cons,idx]
  by_cases h:(x.s==s)=true
  ·rw[if_pos h,if_pos h];rfl
  ·rw[if_neg h,if_neg h,lkN_idx s r]
   cases idx s (r.map Nb.s)<;>rfl
theorem lkA_idx (s:List UInt8) (d:List Int):∀l:List Na,lkA s d l=match idx s (l.map Na.s) with
  |some j=>cpL d (l.getD j ⟨[],[]⟩).l
  |none=>d
 |[]=>rfl
 |x::r=>by
  simp only[lkA,List.map_cons,idx]
  by_cases h:(x.s==s)=true
  ·rw[if_pos h,if_pos h];rfl
  ·rw[if_neg h,if_neg h,lkA_idx s d r]
   cases idx s (r.map Na.s)<;>rfl
theorem stN_lk (l:List Nb) (s:List UInt8):stN l ⟨s,0⟩=⟨s,lkN s l⟩:=by
 unfold stN
 dsimp only
 rw[fI_idx,lkN_idx]
 cases idx s (l.map Nb.s) with
 |none=>rfl
 |some j=>rfl
theorem stNa_lk (l:List Na) (s:List UInt8) (d:List Int):stNa l ⟨s,d⟩=⟨s,lkA s d l⟩:=by
 unfold stNa
 dsimp only
 rw[fI_idx,lkA_idx]
 cases idx s (l.map Na.s) with
 |none=>rfl
 |some j=>rfl
theorem stCs_s {p:List (List UInt8)} {s:List Nb} {i:Nat} {x:List UInt8} (h:p[i]?=some x):(stCs (p.take (i+1)) s).map Nb.c=(stCs (p.take i) s).map Nb.c++[[.v (.string (bs x)),.v (.int .i64 (lkN x s))]]:=by
 rw[List.take_add_one,h]
 simp[stCs,blC,stN_lk,Nb.c]
theorem stA_s {p:List Gy} {s:List Na} {i:Nat} {x:Gy} (h:p[i]?=some x):(stA (p.take (i+1)) s).map Na.c=(stA (p.take i) s).map Na.c++[[.v (.string (bs x.s)),.ov zI ((lkA x.s (List.replicate x.n.toNat 0) s).map cI)]]:=by
 rw[List.take_add_one,h]
 simp[stA,blA,stNa_lk,Na.c]
theorem stCs_len (p:List (List UInt8)) (s:List Nb):(stCs p s).length=p.length:=by simp[stCs,blC]
theorem stA_ln (p:List Gy) (s:List Na):(stA p s).length=p.length:=by simp[stA,blA]
theorem lkA_len (s:List UInt8) (d:List Int):∀l:List Na,(lkA s d l).length=d.length
 |[]=>rfl
 |x::r=>by
  simp only[lkA]
  split
  ·exact cpL_len _ _
  ·exact lkA_len s d r
abbrev rowP (pc:List (List UInt8)) (pa:List Gy) (pf:List Fn):Ch:=.vec 0 [.v (.bool false),.v (.bool false),.v (.bool false)] [[.d (.sl zSqD (pc.map cSd)),.d (.sl zGyD (pa.map Gy.r)),.d (.sl zFn (pf.map Fn.r))]]
abbrev rowS (sc:List Nb) (sa:List Na):Ch:=.vec 0 [.v (.bool false),.v (.bool false)] [[.d (.sl zNbD (sc.map Nb.r)),.d (.sl zNaD (sa.map Na.r))]]
theorem cI_mv (k t:Nat) (l:List Int):(l.map cI).map (fun r=>r.map (mvC k t))=l.map cI:=map_of cI (fun _=>rfl) l
abbrev zT52:List C:=tgN 52 2
abbrev zT68:List C:=tgN 68 2
abbrev zT44:List C:=tgN 44 2
abbrev yc_rState (p:Pg) (s:Sta):Prop:=p.g.c.length≤1000000∧p.g.a.length≤1000000∧(∀x∈p.g.a,1≤x.n∧x.n≤1048576)∧s.cs.length≤1000000∧s.ar.length≤1000000
abbrev yr_rState (p:Pg) (s:Sta):SV:=.agg (stR ⟨stCs p.g.c s.cs,stA p.g.a s.ar⟩)
noncomputable abbrev ya_rState:ArgC ((Pg)×(Sta)×Unit):=(acS (cPg) (acS (cSta) ac0))
abbrev yq_rState:Prop:=CallsY Try.prog 20 ya_rState (fun p:(Pg)×(Sta)×Unit=>yc_rState p.1 p.2.1) (fun p:(Pg)×(Sta)×Unit=>yr_rState p.1 p.2.1)
theorem yn_rState:∀p:(Pg)×(Sta)×Unit,((fun p:(Pg)×(Sta)×Unit=>yr_rState p.1 p.2.1) p).names=[]:=by intro p;rfl
attribute [local go_sem] Na.r Nb.r cPg_d cPg_e cSta_d cSta_e naL_nm nbL_nm pgR stR
set_option maxRecDepth 20000 in set_option maxHeartbeats 16000000 in
theorem y_rState:yq_rState:=by
 rintro ⟨p,s,_u⟩ w fz xs hc hfz hl hx
 refine calls_toL Try.func20 rfl w fz [] [] ya_rState (fun p:(Pg)×(Sta)×Unit=>yr_rState p.1 p.2.1) _ xs hfz hl hx (Nat.le_of_ble_eq_true rfl) ?_
 clear hx hl hfz xs
 simp only[Try.f20]
 obtain⟨⟨pc,pa⟩,pf⟩:=p
 obtain⟨sc,sa⟩:=s
 obtain⟨h1,h2,h3,h4,h5⟩:=hc
 dsimp only at h1 h2 h3 h4 h5
 simp only[↓eB,seval,go_sem,iD]
 refine loop_ok (Y:=Nat) (fun i=>i≤pc.length)
  (fun i=>⟨[(2,true,.one (.p 2 0 0)),(3,true,.one (.p 3 0 0)),(4,true,.one (.p 4 0 0)),(5,true,.one (.p 5 0 0)),(6,true,.one (.v (.int .i64 (i:Int))))],
   [(2,rowP pc pa pf),(3,rowS sc sa),(4,.vec 0 zT44 [[.v (.slice none 0 0),.v (.slice none 0 0)]]),(5,.vec 0 zT44 [[.s 1000,.v (.slice none 0 0)]]),(1000,.vec 0 zNb ((stCs (pc.take i) sc).map Nb.c))]⟩)
  (fun i=>pc.length-i) 0 (Nat.zero_le _) ?_ ?_
 ·refine to_with [.nilr 5 0 0 1000 zNb] ?_;simp only[↓eB,seval,go_sem,iD,zNb,stCs,blC]
 ·rintro i hi
  refine vc_ok [] [] _ _ _ ?_
  have w1:IntKind.i64.wrap ((i:Int)+1)=((i+1:Nat):Int):=by rw[wrap_i64 (by omega) (by omega)];rfl
  cases hx:pc[i]? with
  |none=>
   have g2:=List.getElem?_eq_none_iff.1 hx
   have g1:=natI_ge g2
   simp only[↓eB,seval,go_sem,iD,g1]
   rw[List.take_of_length_le g2]
   refine loop_ok (Y:=Nat) (fun j=>j≤pa.length)
    (fun j=>⟨[(2,true,.one (.p 2 0 0)),(3,true,.one (.p 3 0 0)),(4,true,.one (.p 4 0 0)),(5,true,.one (.p 5 0 0)),(9,true,.one (.v (.int .i64 (j:Int))))],
     [(2,rowP pc pa pf),(3,rowS sc sa),(4,.vec 0 zT44 [[.v (.slice none 0 0),.v (.slice none 0 0)]]),(5,.vec 0 zT44 [[.s 1000,.s 1001]]),(1000,.vec 0 zNb ((stCs pc sc).map Nb.c)),(1001,.vec 0 zNa ((stA (pa.take j) sa).map Na.c))]⟩)
    (fun j=>pa.length-j) 0 (Nat.zero_le _) ?_ ?_
   ·refine to_with [.nilr 5 0 1 1001 zNa] ?_;simp only[↓eB,seval,go_sem,iD,zNa,stA,blA]
   ·rintro j hj
    refine vc_ok [] [] _ _ _ ?_
    have w2:IntKind.i64.wrap ((j:Int)+1)=((j+1:Nat):Int):=by rw[wrap_i64 (by omega) (by omega)];rfl
    cases hy:pa[j]? with
    |none=>
     have k2:=List.getElem?_eq_none_iff.1 hy
     have k1:=natI_ge k2
     simp only[↓eB,seval,go_sem,iD,k1]
     rw[List.take_of_length_le k2]
     refine ret_with [.fz 1000,.fz 1001] ?_;simp only[↓eB,seval,go_sem,bne,yr_rState,iD,nb_dss,na_dss,nbL_fz,naL_fz,zNb,zNa]
    |some y=>
     have hlt:=(List.getElem?_eq_some_iff.1 hy).1
     have k1:=natI_lt hlt
     have hjl:(j:Int)<(pa.length:Int):=by omega
     have hyn:=h3 y (List.mem_of_getElem? hy)
     have hgz:∀z,(pa.map Gy.r).getD j z=y.r:=by intro z;simp[List.getD,hy]
     obtain⟨ys,yn⟩:=y
     dsimp only at hyn
     have w3:IntKind.i64.wrap ((sa.length:Int)-1)=(sa.length:Int)-1:=wrap_i64 (by omega) (by omega)
     simp only[↓eB,seval,go_sem,iD,k1,hgz,Gy.r,w3]
     have hm1:yn.toNat≤1048576:=by omega
     have hm0:0<yn.toNat:=by omega
     obtain⟨Z,hZ⟩:∃Z,List.replicate yn.toNat (0:Int)=Z:=⟨_,rfl⟩
     have hZc:List.replicate yn.toNat [C.v (.int .i64 0)]=Z.map cI:=by rw[← hZ,rpl_cI]
     have hZl:Z.length=yn.toNat:=by rw[← hZ];simp
     refine⟨⟨hjl,rfl⟩,⟨hjl,rfl⟩,⟨(by omega),(by omega),(by omega)⟩,chk_ok (by kernel_rfl),?_⟩
     refine loop_ok (Y:=Nat) (fun kk=>kk≤sa.length)
      (fun kk=>⟨[(2,true,.one (.p 2 0 0)),(3,true,.one (.p 3 0 0)),(4,true,.one (.p 4 0 0)),(5,true,.one (.p 5 0 0)),(9,true,.one (.v (.int .i64 (j:Int)))),(10,true,.one (.p 10 0 0)),(11,true,.one (.v (.int .i64 ((kk:Int)-1))))],
       [(2,rowP pc pa pf),(3,rowS sc sa),(4,.vec 0 zT44 [[.v (.slice none 0 0),.v (.slice none 0 0)]]),(5,.vec 0 zT44 [[.s 1000,.s 1001]]),(1000,.vec 0 zNb ((stCs pc sc).map Nb.c)),(1001,.vec 0 zNa ((stA (pa.take j) sa).map Na.c)),(10,.vec 0 zT68 [[.v (.string (bs ys)),.s 1002]]),(1002,.vec 0 zI ((lkA ys Z (sa.drop kk)).map cI))]⟩)
      (fun kk=>kk) sa.length (Nat.le_refl _) ?_ ?_
     ·refine to_with [.mv 79 1002] ?_;simp only[↓eB,seval,go_sem,iD,lkA,List.drop_length,hZc,zI,nbL_mv,naL_mv,cI_nm,cI_mv]
     ·rintro kk hk
      refine vc_ok [] [] _ _ _ ?_
      cases kk with
      |zero=>
       have e0:decide ((0:Int)≤((0:Nat):Int)-1)=false:=by decide
       simp only[↓eB,seval,go_sem,iD,e0,w2]
       generalize hL:lkA ys Z sa=L
       have hrs:rowsStor [[C.v (Value.string (bs ys)),C.s 1002]]:=by
        intro r h c hc
        simp only[List.mem_singleton]at h
        subst h
        simp only[List.mem_cons,List.not_mem_nil,or_false]at hc
        rcases hc with rfl|rfl<;>rfl
       have hln:(stA (List.take j pa) sa).length=j:=by rw[stA_ln,List.length_take];omega
       have ht:=stA_s (s:=sa) hy
       dsimp only at ht
       rw[hZ,hL]at ht
       have hge:((stA (pa.take j) sa).map Na.c++[[C.v (.string (bs ys)),C.s 1002]])[j]?=some [C.v (.string (bs ys)),C.s 1002]:=by
        rw[List.getElem?_append_right (by rw[List.length_map,hln];exact Nat.le_refl _),List.length_map,hln,Nat.sub_self];rfl
       have hst:∀r:List C,((stA (pa.take j) sa).map Na.c++[[C.v (.string (bs ys)),C.s 1002]]).set j r=(stA (pa.take j) sa).map Na.c++[r]:=by
        intro r
        rw[List.set_append_right _ _ (by rw[List.length_map,hln];exact Nat.le_refl _),List.length_map,hln,Nat.sub_self];rfl
       refine⟨⟨⟨rfl,.inl rfl⟩,(fun q h=>by cases h;rfl),hrs,(by decide),(by rw[hln];omega),(by rw[hln];omega)⟩,j+1,hlt,(by omega),to_trans (t:=⟨[(2,true,.one (.p 2 0 0)),(3,true,.one (.p 3 0 0)),(4,true,.one (.p 4 0 0)),(5,true,.one (.p 5 0 0)),(9,true,.one (.v (.int .i64 ((j+1:Nat):Int))))],
        [(2,rowP pc pa pf),(3,rowS sc sa),(4,.vec 0 zT44 [[.v (.slice none 0 0),.v (.slice none 0 0)]]),(5,.vec 0 zT44 [[.s 1000,.s 120]]),(1000,.vec 0 zNb ((stCs pc sc).map Nb.c)),(120,.vec 0 zNa ((stA (pa.take (j+1)) sa).map Na.c))]⟩) ?_ ?_⟩
       ·refine to_with [.fold 120 j 1] ?_;simp only[↓eB,seval,go_sem,iD,hge,hst,ht,nbL_mv,naL_mv,cI_cl,zI,List.flatMap_append,List.map_append]
       ·refine to_with [.mv 120 1001] ?_;simp only[↓eB,seval,go_sem,iD,nbL_mv,naL_mv]
      |succ k=>
       have e1:((k+1:Nat):Int)-1=(k:Int):=by omega
       have e2:decide ((0:Int)≤(k:Int))=true:=by simp
       have w4:IntKind.i64.wrap ((k:Int)-1)=(k:Int)-1:=wrap_i64 (by omega) (by omega)
       have hkl:(k:Int)<(sa.length:Int):=by omega
       have hq0:sa[k]?=some (sa.getD k ⟨[],[]⟩):=by rw[List.getD,List.getElem?_eq_getElem hk];rfl
       generalize sa.getD k ⟨[],[]⟩=q at hq0
       have hz:=naA_at hq0
       have hd:lkA ys Z (sa.drop k)=if (q.s==ys)=true then cpL Z q.l else lkA ys Z (sa.drop (k+1)):=by rw[drop_get hq0];rfl
       obtain⟨qs,ql⟩:=q
       dsimp only at hd
       cases hq:(qs==ys) with
       |true=>
        rw[hq,if_pos rfl]at hd
        have hcp:=cp_rows Z ql
        simp only[List.length_map]at hcp
        simp only[↓eB,seval,go_sem,iD,e1,e2,w4,hz,hq,hgz,Gy.r,hZc]
        refine⟨hkl,chk_ok (by kernel_rfl),⟨hjl,rfl⟩,⟨(by omega),(by omega),(by omega)⟩,hkl,⟨(by omega),(fun q h=>by cases h;rfl),cI_st ql⟩,chk_ok (by kernel_rfl),k,Nat.le_of_lt hk,Nat.lt_succ_self k,to_trans (t:=⟨[(2,true,.one (.p 2 0 0)),(3,true,.one (.p 3 0 0)),(4,true,.one (.p 4 0 0)),(5,true,.one (.p 5 0 0)),(9,true,.one (.v (.int .i64 (j:Int)))),(10,true,.one (.p 10 0 0)),(11,true,.one (.v (.int .i64 ((k:Int)-1))))],
         [(2,rowP pc pa pf),(3,rowS sc sa),(4,.vec 0 zT44 [[.v (.slice none 0 0),.v (.slice none 0 0)]]),(5,.vec 0 zT44 [[.s 1000,.s 1001]]),(1000,.vec 0 zNb ((stCs pc sc).map Nb.c)),(1001,.vec 0 zNa ((stA (pa.take j) sa).map Na.c)),(10,.vec 0 zT68 [[.v (.string (bs ys)),.s 105]]),(105,.vec 1 zI ((cpL Z ql).map cI))]⟩) ?_ ?_⟩
        ·refine to_with [] ?_;simp only[↓eB,seval,go_sem,iD,hcp,zI,cI_nm]
        ·refine to_with [.mv 105 1002] ?_;simp only[↓eB,seval,go_sem,iD,hd,zI,nbL_mv,naL_mv,cI_mv,cI_nm]
       |false=>
        rw[hq,if_neg (by decide)]at hd
        simp only[↓eB,seval,go_sem,iD,e1,e2,w4,hz,hq]
        refine⟨hkl,chk_ok (by kernel_rfl),k,Nat.le_of_lt hk,Nat.lt_succ_self k,?_⟩
        refine to_with [] ?_;simp only[↓eB,seval,go_sem,iD,hd,cI_nm]
  |some x=>
   have hlt:=(List.getElem?_eq_some_iff.1 hx).1
   have g1:=natI_lt hlt
   have hil:(i:Int)<(pc.length:Int):=by omega
   have hs:(pc.map cSd).getD i zSqD=cSd x:=by simp[List.getD,hx]
   have w2:IntKind.i64.wrap ((sc.length:Int)-1)=(sc.length:Int)-1:=wrap_i64 (by omega) (by omega)
   simp only[↓eB,seval,go_sem,iD,g1,hs,cSd,w2]
   refine⟨⟨hil,rfl⟩,?_⟩
   refine loop_ok (Y:=Nat) (fun kk=>kk≤sc.length)
    (fun kk=>⟨[(2,true,.one (.p 2 0 0)),(3,true,.one (.p 3 0 0)),(4,true,.one (.p 4 0 0)),(5,true,.one (.p 5 0 0)),(6,true,.one (.v (.int .i64 (i:Int)))),(7,true,.one (.p 7 0 0)),(8,true,.one (.v (.int .i64 ((kk:Int)-1))))],
     [(2,rowP pc pa pf),(3,rowS sc sa),(4,.vec 0 zT44 [[.v (.slice none 0 0),.v (.slice none 0 0)]]),(5,.vec 0 zT44 [[.s 1000,.v (.slice none 0 0)]]),(1000,.vec 0 zNb ((stCs (pc.take i) sc).map Nb.c)),(7,.vec 0 zT52 [[.v (.string (bs x)),.v (.int .i64 (lkN x (sc.drop kk)))]])]⟩)
    (fun kk=>kk) sc.length (Nat.le_refl _) ?_ ?_
   ·refine to_with [] ?_;simp only[↓eB,seval,go_sem,iD,lkN,List.drop_length]
   ·rintro kk hk
    refine vc_ok [] [] _ _ _ ?_
    cases kk with
    |zero=>
     have e0:decide ((0:Int)≤((0:Nat):Int)-1)=false:=by decide
     simp only[↓eB,seval,go_sem,iD,e0,w1]
     have hrs:rowsStor [[C.v (Value.string (bs x)),C.v (Value.int IntKind.i64 (lkN x sc))]]:=by
      intro r h c hc
      simp only[List.mem_singleton]at h
      subst h
      simp only[List.mem_cons,List.not_mem_nil,or_false]at hc
      rcases hc with rfl|rfl<;>rfl
     have hln:(stCs (List.take i pc) sc).length=i:=by rw[stCs_len,List.length_take];omega
     have ht:=stCs_s (s:=sc) hx
     refine⟨⟨⟨rfl,.inl rfl⟩,(fun q h=>by cases h;rfl),hrs,(by decide),(by rw[hln];omega),(by rw[hln];omega)⟩,i+1,hlt,(by omega),to_trans (t:=⟨[(2,true,.one (.p 2 0 0)),(3,true,.one (.p 3 0 0)),(4,true,.one (.p 4 0 0)),(5,true,.one (.p 5 0 0)),(6,true,.one (.v (.int .i64 ((i+1:Nat):Int))))],
      [(2,rowP pc pa pf),(3,rowS sc sa),(4,.vec 0 zT44 [[.v (.slice none 0 0),.v (.slice none 0 0)]]),(5,.vec 0 zT44 [[.s 55,.v (.slice none 0 0)]]),(55,.vec 0 zNb ((stCs (pc.take (i+1)) sc).map Nb.c))]⟩) ?_ ?_⟩
     ·refine to_with [] ?_;simp only[↓eB,seval,go_sem,iD,ht,List.map_append,List.flatMap_append]
     ·refine to_with [.mv 55 1000] ?_;simp only[↓eB,seval,go_sem,iD,nbL_mv]
    |succ k=>
     have e1:((k+1:Nat):Int)-1=(k:Int):=by omega
     have e2:decide ((0:Int)≤(k:Int))=true:=by simp
     have w3:IntKind.i64.wrap ((k:Int)-1)=(k:Int)-1:=wrap_i64 (by omega) (by omega)
     have hkl:(k:Int)<(sc.length:Int):=by omega
     have hy:sc[k]?=some (sc.getD k ⟨[],0⟩):=by rw[List.getD,List.getElem?_eq_getElem hk];rfl
     generalize sc.getD k ⟨[],0⟩=y at hy
     have hz:=nbA_at hy
     have hd:lkN x (sc.drop k)=if (y.s==x)=true then y.n else lkN x (sc.drop (k+1)):=by rw[drop_get hy];rfl
     obtain⟨ys,yn⟩:=y
     dsimp only at hd
     cases hq:(ys==x) with
     |true=>
      rw[hq,if_pos rfl]at hd
      simp only[↓eB,seval,go_sem,iD,e1,e2,w3,hz,hq]
      refine⟨hkl,chk_ok (by kernel_rfl),hkl,?_⟩
      refine⟨k,Nat.le_of_lt hk,Nat.lt_succ_self k,?_⟩
      refine to_with [] ?_;simp only[↓eB,seval,go_sem,iD,hd]
     |false=>
      rw[hq,if_neg (by decide)]at hd
      simp only[↓eB,seval,go_sem,iD,e1,e2,w3,hz,hq]
      refine⟨hkl,chk_ok (by kernel_rfl),?_⟩
      refine⟨k,Nat.le_of_lt hk,Nat.lt_succ_self k,?_⟩
      refine to_with [] ?_;simp only[↓eB,seval,go_sem,iD,hd]
noncomputable def yp_rState {X:Ctx} {w0:World}:Sy.Spec Try.prog X w0:=specD 20 Try.call20 ya_rState (fun p:(Pg)×(Sta)×Unit=>yc_rState p.1 p.2.1) (fun p:(Pg)×(Sta)×Unit=>yr_rState p.1 p.2.1) yn_rState y_rState
end Go.Proofs.Ytjnnmindcbgjhaa
