/- The arguments that the laws call with, walked. Conditions: lengths. -/
import Derived.Test.YtjnnmindcbgjhaaRst
import Derived.Test.YtjnnmindcbgjhaaRmn
set_option linter.unusedVariables false
set_option linter.unusedSimpArgs false
open List (append_assoc map_append)
namespace Go.Proofs.Ytjnnmindcbgjhaa
open Go Go.Sy Go.RowKit
def agV (P:Pg) (l:List Int) (q:Int) (k:Nat) (v:Vr):Va:=
 if v.p=true then ⟨true,0,if decide (0<(P.g.c.length:Int))=true then if decide (0<q.tmod 4)=true then P.g.c.getD (q.tmod (P.g.c.length:Int)).toNat [] else [] else []⟩
 else ⟨false,if decide (0<(l.length:Int))=true then l.getD ((k:Int).tmod (l.length:Int)).toNat 0 else 0,[]⟩
def agP (P:Pg) (l:List Int) (q:Int) (ps:List Vr) (j:Nat):List Va:=(List.range j).map fun k=>agV P l q k (ps.getD k ⟨[],false⟩)
def agG (P:Pg) (f:List UInt8) (l:List Int) (q:Int) (g:Fn):List Va:=if (g.name==f)=true then agP P l q g.ps g.ps.length else []
def agI (P:Pg) (f:List UInt8) (l:List Int) (q:Int) (i:Nat):List Va:=(P.fs.take i).flatMap (agG P f l q)
def agF (P:Pg) (f:List UInt8) (l:List Int) (q:Int):List Va:=P.fs.flatMap (agG P f l q)
theorem UV (P:Pg) (l:List Int) (q:Int) (ps:List Vr) (j:Nat):(agP P l q ps j).length=j:=by simp[agP]
theorem A0N {P:Pg} {l:List Int} {q:Int} {ps:List Vr} {j:Nat} {v:Vr} (h:ps[j]?=some v):agP P l q ps (j+1)=agP P l q ps j++[agV P l q j v]:=by
 unfold agP;rw[List.range_succ,map_append];simp[List.getD,h]
theorem kS {P:Pg} {f:List UInt8} {l:List Int} {q:Int} {i:Nat} {g:Fn} (h:P.fs[i]?=some g):agI P f l q (i+1)=agI P f l q i++agG P f l q g:=by
 unfold agI;rw[List.take_add_one,h];simp
theorem Yo {P:Pg} {f:List UInt8} {l:List Int} {q:Int} (h:∀g∈P.fs,g.ps.length≤5000):∀i,i≤P.fs.length→(agI P f l q i).length≤i*5000
 |0,_=>by unfold agI;simp
 |i+1,hi=>by
  have hx:P.fs[i]?=some P.fs[i]:=List.getElem?_eq_getElem hi
  rw[kS hx,List.length_append]
  have h1:=Yo (f:=f) (l:=l) (q:=q) h i (by omega)
  have h2:=h _ (List.getElem_mem hi)
  have h3:(agG P f l q P.fs[i]).length≤5000:=by
   unfold agG;split
   ·rw[UV];exact h2
   ·exact Nat.zero_le _
  omega
theorem cP {l:List (List UInt8)} {i:Nat} (h:i<l.length) (z:List D):(l.map cSd).getD i z=[.v (.string (bs (l.getD i [])))]:=by
 simp[List.getD,h,cSd]
theorem tw {l:List Int} {i:Nat} (h:i<l.length) (z:List D):(l.map iD).getD i z=[.v (.int .i64 (l.getD i 0))]:=by
 simp[List.getD,h,iD]
theorem Qk (p:Bool) (n:Int) (s:List UInt8):B4 [[C.v (.bool p),C.v (.int .i64 n),C.v (.string (bs s))]]:=by
 intro r h c hc
 rw[List.mem_singleton.1 h]at hc
 simp only[List.mem_cons,List.not_mem_nil,or_false]at hc
 rcases hc with rfl|rfl|rfl<;>rfl
abbrev SY (p:Pg) (f:List UInt8) (l:List Int) (q:Int):Prop:=p.g.c.length≤1000000∧l.length≤1000000∧p.fs.length≤1000000∧(∀g∈p.fs,g.ps.length≤5000)∧u8R q
abbrev FB (p:Pg) (f:List UInt8) (l:List Int) (q:Int):SV:=.one (.d (.sl Ka ((agF p f l q).map Va.r)))
noncomputable abbrev SZ:ArgC ((Pg)×(List UInt8)×(List Int)×(Int)×Unit):=(acS (cPg) (acS (cStr) (acS (cI6) (acS (cInt .u8) ac0))))
abbrev fY:Prop:=CY Try.prog 16 SZ (fun p:(Pg)×(List UInt8)×(List Int)×(Int)×Unit=>SY p.1 p.2.1 p.2.2.1 p.2.2.2.1) (fun p:(Pg)×(List UInt8)×(List Int)×(Int)×Unit=>FB p.1 p.2.1 p.2.2.1 p.2.2.2.1)
theorem fZ:∀p:(Pg)×(List UInt8)×(List Int)×(Int)×Unit,((fun p:(Pg)×(List UInt8)×(List Int)×(Int)×Unit=>FB p.1 p.2.1 p.2.2.1 p.2.2.2.1) p).names=[]:=by intro p;rfl
attribute [local go_sem] Va.c Va.r bP lN QD QC pgR wY A1r wX
set_option maxRecDepth 20000 in set_option maxHeartbeats 16000000 in
theorem lb:fY:=by
 rintro ⟨p,f,l,q,_u⟩ w fz xs hc hfz hl hx
 refine BZ Try.func16 rfl w fz [] [] SZ (fun p:(Pg)×(List UInt8)×(List Int)×(Int)×Unit=>FB p.1 p.2.1 p.2.2.1 p.2.2.2.1) _ xs hfz hl hx (jN rfl) ?_
 clear hx hl hfz xs
 simp only[Try.f16]
 obtain⟨h1,h2,h3,h4,q0,q1⟩:=hc
 obtain⟨⟨pc,pa⟩,pf⟩:=p
 dsimp only at h1 h2 h3 h4 q0 q1
 simp only[↓eB,seval,go_sem]
 refine AU (Y:=Nat) (fun i=>i≤pf.length)
  (fun i=>⟨[(1,true,.one (.v (.string (bs f)))),(2,true,.one (.d (.sl zIw (l.map iD)))),(3,true,.one (.v (.int .u8 q))),(4,true,.one (.p 4 0 0)),(9,true,.one (.s 1000)),(10,true,.one (.v (.int .i64 (i:Int))))],
   [(4,Kk pc pa pf),(1000,.vec 0 OU ((agI ⟨⟨pc,pa⟩,pf⟩ f l q i).map Va.c))]⟩)
  (fun i=>pf.length-i) 0 (Nat.zero_le _) ?_ ?_
 ·refine A2 [.nil 9 1000 OU] ?_;simp only[↓eB,seval,go_sem,OU,agI]
 ·rintro i hi
  refine Ak [] [] _ _ _ ?_
  have w1:IntKind.i64.wrap ((i:Int)+1)=((i+1:Nat):Int):=by rw[wrap_i64 (by omega) (by omega)];rfl
  cases hx:pf[i]? with
  |none=>
   have k2:=List.getElem?_eq_none_iff.1 hx
   have k1:=BA k2
   have hr:agF ⟨⟨pc,pa⟩,pf⟩ f l q=agI ⟨⟨pc,pa⟩,pf⟩ f l q i:=by unfold agF agI;dsimp only;rw[List.take_of_length_le k2]
   simp only[↓eB,seval,go_sem,k1]
   refine A0 [.fz 1000] ?_;simp only[↓eB,seval,go_sem,bne,FB,hr,OU]
  |some x=>
   have hlt:=(List.getElem?_eq_some_iff.1 hx).1
   have k1:=B9 hlt
   have hz:=wc hx
   have hs:=kS (P:=⟨⟨pc,pa⟩,pf⟩) (f:=f) (l:=l) (q:=q) (i:=i) (g:=x) hx
   have hIl:=Yo (P:=⟨⟨pc,pa⟩,pf⟩) (f:=f) (l:=l) (q:=q) h4 i hi
   have hil:(i:Int)<(pf.length:Int):=by omega
   have hpl:=h4 x (List.mem_of_getElem? hx)
   obtain⟨xn,xp,xl,xb⟩:=x
   dsimp only at hpl
   generalize hA:agI ⟨⟨pc,pa⟩,pf⟩ f l q i=A at*
   cases hq:(xn==f) with
   |false=>
    have hq2:(xn != f)=true:=by simp[bne,hq]
    have hs2:agI ⟨⟨pc,pa⟩,pf⟩ f l q (i+1)=A:=by
     rw[hs];unfold agG;rw[if_neg (show ¬(xn==f)=true by rw[hq];decide),List.append_nil]
    simp only[↓eB,seval,go_sem,k1,w1,hz,Fn.r,hq,hq2]
    refine⟨⟨hil,rfl⟩,i+1,hlt,(by omega),?_⟩
    refine A2 [] ?_;simp only[↓eB,seval,go_sem,hs2]
   |true=>
    have hq2:(xn != f)=false:=by simp[bne,hq]
    have hs2:agI ⟨⟨pc,pa⟩,pf⟩ f l q (i+1)=A++agP ⟨⟨pc,pa⟩,pf⟩ l q xp xp.length:=by
     rw[hs];unfold agG;rw[if_pos (show (xn==f)=true from hq)]
    simp only[↓eB,seval,go_sem,k1,w1,hz,Fn.r,hq,hq2]
    refine⟨⟨hil,rfl⟩,?_⟩
    refine AU (Y:=Nat) (fun j=>j≤xp.length)
     (fun j=>⟨[(1,true,.one (.v (.string (bs f)))),(2,true,.one (.d (.sl zIw (l.map iD)))),(3,true,.one (.v (.int .u8 q))),(4,true,.one (.p 4 0 0)),(9,true,.one (.s 1000)),(10,true,.one (.v (.int .i64 (i:Int)))),(11,true,.one (.v (.int .i64 (j:Int))))],
      [(4,Kk pc pa pf),(1000,.vec 0 OU ((A++agP ⟨⟨pc,pa⟩,pf⟩ l q xp j).map Va.c))]⟩)
     (fun j=>xp.length-j) 0 (Nat.zero_le _) ?_ ?_
    ·refine A2 [] ?_;simp only[↓eB,seval,go_sem,agP,List.range_zero]
    ·rintro j hj
     refine Ak [] [] _ _ _ ?_
     have w2:IntKind.i64.wrap ((j:Int)+1)=((j+1:Nat):Int):=by rw[wrap_i64 (by omega) (by omega)];rfl
     cases hy:xp[j]? with
     |none=>
      have g2:=List.getElem?_eq_none_iff.1 hy
      have g1:=BA g2
      have hje:j=xp.length:=by omega
      simp only[↓eB,seval,go_sem,w1,g1,hz,Fn.r]
      refine⟨⟨hil,rfl⟩,i+1,hlt,(by omega),?_⟩
      refine A2 [] ?_;simp only[↓eB,seval,go_sem,hs2,hje]
     |some v=>
      have glt:=(List.getElem?_eq_some_iff.1 hy).1
      have g1:=B9 glt
      have hjl:(j:Int)<(xp.length:Int):=by omega
      have hv:=wa hy
      have hln:(A++agP ⟨⟨pc,pa⟩,pf⟩ l q xp j).length≤6000000000:=by rw[List.length_append,UV];omega
      have hps:=A0N (P:=⟨⟨pc,pa⟩,pf⟩) (l:=l) (q:=q) hy
      obtain⟨vs,vp⟩:=v
      cases vp with
      |true=>
       cases c0:decide (0<(pc.length:Int)) with
       |false=>
        have hV:agV ⟨⟨pc,pa⟩,pf⟩ l q j ⟨vs,true⟩=⟨true,0,[]⟩:=by
         unfold agV;rw[if_pos rfl,if_neg (show ¬decide (0<(pc.length:Int))=true by rw[c0];decide)]
        have ht:(A++agP ⟨⟨pc,pa⟩,pf⟩ l q xp (j+1)).map Va.c=(A++agP ⟨⟨pc,pa⟩,pf⟩ l q xp j).map Va.c++[[.v (.bool true),.v (.int .i64 0),.v (.string (bs []))]]:=by
         rw[hps,hV,← append_assoc,map_append];rfl
        generalize hB:A++agP ⟨⟨pc,pa⟩,pf⟩ l q xp j=B at*
        simp only[↓eB,seval,go_sem,g1,w2,hz,hv,Fn.r,Vr.r,c0]
        refine⟨⟨hil,rfl⟩,⟨hil,rfl⟩,⟨hjl,rfl⟩,⟨⟨rfl,.inl rfl⟩,(fun q h=>by cases h;rfl),Qk _ _ _,(by decide),(by omega),(by omega)⟩,j+1,glt,(by omega),BS (t:=⟨[(1,true,.one (.v (.string (bs f)))),(2,true,.one (.d (.sl zIw (l.map iD)))),(3,true,.one (.v (.int .u8 q))),(4,true,.one (.p 4 0 0)),(9,true,.one (.s 87)),(10,true,.one (.v (.int .i64 (i:Int)))),(11,true,.one (.v (.int .i64 ((j+1:Nat):Int))))],
         [(4,Kk pc pa pf),(87,.vec 0 OU ((A++agP ⟨⟨pc,pa⟩,pf⟩ l q xp (j+1)).map Va.c))]⟩) ?_ ?_⟩
        ·refine A2 [] ?_;simp only[↓eB,seval,go_sem,ht,map_append,List.flatMap_append]
        ·refine A2 [.mv 87 1000] ?_;simp only[↓eB,seval,go_sem]
       |true=>
       have c1:=of_decide_eq_true c0
       cases d0:decide (0<q.tmod 4) with
       |false=>
        have hV:agV ⟨⟨pc,pa⟩,pf⟩ l q j ⟨vs,true⟩=⟨true,0,[]⟩:=by
         unfold agV;rw[if_pos rfl,if_pos (show decide (0<(pc.length:Int))=true from c0),if_neg (by rw[d0];decide)]
        have ht:(A++agP ⟨⟨pc,pa⟩,pf⟩ l q xp (j+1)).map Va.c=(A++agP ⟨⟨pc,pa⟩,pf⟩ l q xp j).map Va.c++[[.v (.bool true),.v (.int .i64 0),.v (.string (bs []))]]:=by
         rw[hps,hV,← append_assoc,map_append];rfl
        generalize hB:A++agP ⟨⟨pc,pa⟩,pf⟩ l q xp j=B at*
        simp only[↓eB,seval,go_sem,g1,w2,hz,hv,Fn.r,Vr.r,c0,d0]
        refine⟨⟨hil,rfl⟩,⟨hil,rfl⟩,⟨hjl,rfl⟩,⟨⟨rfl,.inl rfl⟩,(fun q h=>by cases h;rfl),Qk _ _ _,(by decide),(by omega),(by omega)⟩,j+1,glt,(by omega),BS (t:=⟨[(1,true,.one (.v (.string (bs f)))),(2,true,.one (.d (.sl zIw (l.map iD)))),(3,true,.one (.v (.int .u8 q))),(4,true,.one (.p 4 0 0)),(9,true,.one (.s 87)),(10,true,.one (.v (.int .i64 (i:Int)))),(11,true,.one (.v (.int .i64 ((j+1:Nat):Int))))],
         [(4,Kk pc pa pf),(87,.vec 0 OU ((A++agP ⟨⟨pc,pa⟩,pf⟩ l q xp (j+1)).map Va.c))]⟩) ?_ ?_⟩
        ·refine A2 [] ?_;simp only[↓eB,seval,go_sem,ht,map_append,List.flatMap_append]
        ·refine A2 [.mv 87 1000] ?_;simp only[↓eB,seval,go_sem]
       |true=>
        have hV:agV ⟨⟨pc,pa⟩,pf⟩ l q j ⟨vs,true⟩=⟨true,0,pc.getD (q.tmod (pc.length:Int)).toNat []⟩:=by
         unfold agV;rw[if_pos rfl,if_pos (show decide (0<(pc.length:Int))=true from c0),if_pos d0]
        have ht:(A++agP ⟨⟨pc,pa⟩,pf⟩ l q xp (j+1)).map Va.c=(A++agP ⟨⟨pc,pa⟩,pf⟩ l q xp j).map Va.c++[[.v (.bool true),.v (.int .i64 0),.v (.string (bs (pc.getD (q.tmod (pc.length:Int)).toNat [])))]]:=by
         rw[hps,hV,← append_assoc,map_append];rfl
        have wq:IntKind.i64.wrap q=q:=wrap_i64 (by omega) (by omega)
        have t0:0≤q.tmod (pc.length:Int):=Int.tmod_nonneg _ q0
        have t1:q.tmod (pc.length:Int)<(pc.length:Int):=Int.tmod_lt_of_pos q c1
        have hcz:=cP (l:=pc) (i:=(q.tmod (pc.length:Int)).toNat) (by omega)
        generalize hB:A++agP ⟨⟨pc,pa⟩,pf⟩ l q xp j=B at*
        simp only[↓eB,seval,go_sem,g1,w2,hz,hv,Fn.r,Vr.r,c0,d0,wq,hcz]
        refine⟨⟨hil,rfl⟩,⟨hil,rfl⟩,⟨hjl,rfl⟩,(by omega),⟨t0,t1,rfl⟩,C7 (by kernel_rfl),⟨⟨rfl,.inl rfl⟩,(fun q h=>by cases h;rfl),Qk _ _ _,(by decide),(by omega),(by omega)⟩,j+1,glt,(by omega),BS (t:=⟨[(1,true,.one (.v (.string (bs f)))),(2,true,.one (.d (.sl zIw (l.map iD)))),(3,true,.one (.v (.int .u8 q))),(4,true,.one (.p 4 0 0)),(9,true,.one (.s 87)),(10,true,.one (.v (.int .i64 (i:Int)))),(11,true,.one (.v (.int .i64 ((j+1:Nat):Int))))],
         [(4,Kk pc pa pf),(87,.vec 0 OU ((A++agP ⟨⟨pc,pa⟩,pf⟩ l q xp (j+1)).map Va.c))]⟩) ?_ ?_⟩
        ·refine A2 [] ?_;simp only[↓eB,seval,go_sem,ht,map_append,List.flatMap_append]
        ·refine A2 [.mv 87 1000] ?_;simp only[↓eB,seval,go_sem]
      |false=>
       cases c0:decide (0<(l.length:Int)) with
       |false=>
        have hV:agV ⟨⟨pc,pa⟩,pf⟩ l q j ⟨vs,false⟩=⟨false,0,[]⟩:=by
         unfold agV;rw[if_neg (fun h=>by cases h),if_neg (by rw[c0];decide)]
        have ht:(A++agP ⟨⟨pc,pa⟩,pf⟩ l q xp (j+1)).map Va.c=(A++agP ⟨⟨pc,pa⟩,pf⟩ l q xp j).map Va.c++[[.v (.bool false),.v (.int .i64 0),.v (.string (bs []))]]:=by
         rw[hps,hV,← append_assoc,map_append];rfl
        generalize hB:A++agP ⟨⟨pc,pa⟩,pf⟩ l q xp j=B at*
        simp only[↓eB,seval,go_sem,g1,w2,hz,hv,Fn.r,Vr.r,c0]
        refine⟨⟨hil,rfl⟩,⟨hil,rfl⟩,⟨hjl,rfl⟩,⟨⟨rfl,.inl rfl⟩,(fun q h=>by cases h;rfl),Qk _ _ _,(by decide),(by omega),(by omega)⟩,j+1,glt,(by omega),BS (t:=⟨[(1,true,.one (.v (.string (bs f)))),(2,true,.one (.d (.sl zIw (l.map iD)))),(3,true,.one (.v (.int .u8 q))),(4,true,.one (.p 4 0 0)),(9,true,.one (.s 87)),(10,true,.one (.v (.int .i64 (i:Int)))),(11,true,.one (.v (.int .i64 ((j+1:Nat):Int))))],
         [(4,Kk pc pa pf),(87,.vec 0 OU ((A++agP ⟨⟨pc,pa⟩,pf⟩ l q xp (j+1)).map Va.c))]⟩) ?_ ?_⟩
        ·refine A2 [] ?_;simp only[↓eB,seval,go_sem,ht,map_append,List.flatMap_append]
        ·refine A2 [.mv 87 1000] ?_;simp only[↓eB,seval,go_sem]
       |true=>
        have c1:=of_decide_eq_true c0
        have hV:agV ⟨⟨pc,pa⟩,pf⟩ l q j ⟨vs,false⟩=⟨false,l.getD ((j:Int).tmod (l.length:Int)).toNat 0,[]⟩:=by
         unfold agV;rw[if_neg (fun h=>by cases h),if_pos c0]
        have ht:(A++agP ⟨⟨pc,pa⟩,pf⟩ l q xp (j+1)).map Va.c=(A++agP ⟨⟨pc,pa⟩,pf⟩ l q xp j).map Va.c++[[.v (.bool false),.v (.int .i64 (l.getD ((j:Int).tmod (l.length:Int)).toNat 0)),.v (.string (bs []))]]:=by
         rw[hps,hV,← append_assoc,map_append];rfl
        have t0:0≤(j:Int).tmod (l.length:Int):=Int.tmod_nonneg _ (by omega)
        have t1:(j:Int).tmod (l.length:Int)<(l.length:Int):=Int.tmod_lt_of_pos _ c1
        have hcz:=tw (l:=l) (i:=((j:Int).tmod (l.length:Int)).toNat) (by omega)
        generalize hB:A++agP ⟨⟨pc,pa⟩,pf⟩ l q xp j=B at*
        simp only[↓eB,seval,go_sem,g1,w2,hz,hv,Fn.r,Vr.r,c0,hcz]
        refine⟨⟨hil,rfl⟩,⟨hil,rfl⟩,⟨hjl,rfl⟩,(by omega),⟨t0,t1⟩,⟨⟨rfl,.inl rfl⟩,(fun q h=>by cases h;rfl),Qk _ _ _,(by decide),(by omega),(by omega)⟩,j+1,glt,(by omega),BS (t:=⟨[(1,true,.one (.v (.string (bs f)))),(2,true,.one (.d (.sl zIw (l.map iD)))),(3,true,.one (.v (.int .u8 q))),(4,true,.one (.p 4 0 0)),(9,true,.one (.s 87)),(10,true,.one (.v (.int .i64 (i:Int)))),(11,true,.one (.v (.int .i64 ((j+1:Nat):Int))))],
         [(4,Kk pc pa pf),(87,.vec 0 OU ((A++agP ⟨⟨pc,pa⟩,pf⟩ l q xp (j+1)).map Va.c))]⟩) ?_ ?_⟩
        ·refine A2 [] ?_;simp only[↓eB,seval,go_sem,ht,map_append,List.flatMap_append]
        ·refine A2 [.mv 87 1000] ?_;simp only[↓eB,seval,go_sem]
noncomputable def HM {X:Ctx} {w0:World}:Sy.Spec Try.prog X w0:=D4 16 Try.call16 SZ (fun p:(Pg)×(List UInt8)×(List Int)×(Int)×Unit=>SY p.1 p.2.1 p.2.2.1 p.2.2.2.1) (fun p:(Pg)×(List UInt8)×(List Int)×(Int)×Unit=>FB p.1 p.2.1 p.2.2.1 p.2.2.2.1) fZ lb
end Go.Proofs.Ytjnnmindcbgjhaa
