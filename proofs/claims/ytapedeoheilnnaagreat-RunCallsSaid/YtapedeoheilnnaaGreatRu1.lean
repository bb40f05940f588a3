/- More fuel: a run that ends with some ends so with more, plain. No conditions but those in each statement. -/
import Derived.Test.YtapedeoheilnnaaGreatSy36
import Derived.Test.YtapedeoheilnnaaGreatZs3
import Derived.Test.YtapedeoheilnnaaGreatMk5
import Derived.Test.YtapedeoheilnnaaGreatRst
import Derived.Test.YtapedeoheilnnaaGreatRmn
set_option linter.all false
set_option maxRecDepth 20000
set_option maxHeartbeats 16000000
open List (append_assoc map_append)
namespace Go.Proofs.YtapedeoheilnnaaGreat
open Go Go.Sy Go.RowKit
theorem IT{P:Prop}(h:P:=by
 refine⟨⟨hil,rfl⟩,⟨hil,rfl⟩,⟨hjl,rfl⟩,⟨⟨rfl,.inl rfl⟩,(λq h=>by cases h;rfl),SY _ _ _,(by decide),(by omega),(by omega)⟩,j+1,glt,(by omega),BU (t:=⟨[(1,true,.one (.v (.string (bs f)))),(2,true,.one (.d (.sl zIw (l.map iD)))),(3,true,.one (.v (.int .u8 q))),(4,true,.one (.p 4 0 0)),(9,true,.one (.s 87)),(10,true,.one (.v (.int .i64 (i:Int)))),(11,true,.one (.v (.int .i64 ((j+1:Nat):Int))))],
  [(4,Gb pc pa pf),(87,.vec 0 GA ((A++agP ⟨⟨pc,pa⟩,pf⟩ l q xp (j+1)).map Va.c))]⟩) ?_ ?_⟩
 .refine A2 [] ?_;simp only[seval,go_sem,ht,map_append,List.flatMap_append]
 refine A2 [.mv 87 1000] ?_;simp only[seval,go_sem]):P:=h
theorem AAy{P:Prop}(h:P:=by rw[hps,hV,<- append_assoc,map_append];rfl):P:=h
variable{i:Nat}{P:Pg}
def Ms.pl(m:Ms)(d:Int):Ms:={ m with fuel:=m.fuel+d }
def Fa.pl(q:Fa)(d:Int):Fa:={ q with m:=q.m.pl d }
def Ro.pl(r:Ro)(d:Int):Ro:=⟨r.b,r.t,r.q.pl d⟩
def Ro.ex(r:Ro):Prop:=r.b=true/\r.q.m.e=2
section
variable (d:Int)
end
structure Fu(q:Fa)(r:Ro):Prop where
 l:0<=r.q.m.fuel
 u:r.q.m.fuel<=q.m.fuel
theorem Fu.of{q q':Fa}{b t:Bool}(h:0<=q.m.fuel)(e:q'.m.fuel=q.m.fuel):Fu q ⟨b,t,q'⟩:=⟨by show 0<=q'.m.fuel;omega,by show q'.m.fuel<=_;omega⟩
theorem Fu.tr{q q':Fa}{r:Ro}(h:q'.m.fuel<=q.m.fuel)(k:Fu q' r):Fu q r:=⟨k.l,by have:=k.u;omega⟩
open Go Go.Sy Go.RowKit
theorem A4c{n:Nat}{f:List UInt8}{va:List Va}{s:Sta}{a:Int}(h2:a<=1000000):(clF n P f va s a).cs.length=(stCs P.g.c s.cs).length/\(clF n P f va s a).ar.map naL=(stA P.g.a s.ar).map naL:=by
 unfold clF
 split
 .rename_i h
  have e1:mn a 1048576=a:=by unfold mn;split<;>omega
  have key:(rnA n P f va (ms0 P s a)).2.2.cs.length=(stCs P.g.c s.cs).length/\(rnA n P f va (ms0 P s a)).2.2.ar.map naL=(stA P.g.a s.ar).map naL:=by
   unfold rnA
   cases P.fi f with
   |none=>exact⟨rfl,rfl⟩
   |some i=>
   dsimp only
   split
   .exact⟨rfl,rfl⟩
   split
   .exact⟨rfl,rfl⟩
   have k:=Vn (ME n) ⟨[],0,P,ms0 P s a,[]⟩ (P.fs.getD i.toNat ⟨[],[],[],[]⟩) va (by show 0<=mn a 1048576;omega) (by show mn a 1048576<=_;omega)
   exact⟨k.c,k.a⟩
  unfold rnZ OL
  split
  .split
   .exact key
   exact key
  exact key
 exact⟨rfl,rfl⟩
def ltF(l:List (List Int))(n:Int):Bool:=!(decide (4<(l.length:Int)))&&l.all λb=>!(decide (n<(b.length:Int)))
theorem A4d{l:List (List Int)}(h:i<l.length)(p:List Int->Bool):(l.drop i).all p=(p (l.getD i [])&&(l.drop (i+1)).all p):=by
 rw[List.drop_eq_getElem_cons h,List.all_cons]
 simp only[List.getD,List.getElem?_eq_getElem h,Option.getD_some]
abbrev oO(l:List (List Int))(n:Int):Prop:=l.length<=maxLen
abbrev Lr(l:List (List Int))(n:Int):SV:=.one (.v (.bool (ltF l n)))
noncomputable abbrev Uq:ArgC ((List (List Int))×(Int)×Unit):=(acS (cBl) (acS (cInt .i64) ac0))
abbrev oP:Prop:=Ca Tryz.prog 7 Uq (λp:(List (List Int))×(Int)×Unit=>oO p.1 p.2.1) (λp:(List (List Int))×(Int)×Unit=>Lr p.1 p.2.1)
section
attribute [local go_sem] ZE ZD yT
theorem uz:oP:=by
 rintro ⟨l,n,_u⟩ w fz xs hc hfz hl hx
 refine Bg Tryz.func7 rfl w fz [] [] Uq (λp:(List (List Int))×(Int)×Unit=>Lr p.1 p.2.1) _ xs hfz hl hx (jN rfl) ?_
 clear hx hl hfz xs
 simp only[Tryz.f7]
 have hc:l.length<=9223372036854775807:=Nat.le_trans (show l.length<=maxLen from hc) (by decide)
 cases h4:decide (4<(l.length:Int)) with
 |true=>
  have hr:ltF l n=false:=by unfold ltF;rw[h4];rfl
  simp only[seval,go_sem,h4]
  refine A1 [] ?_;simp only[seval,go_sem,bne,Lr,hr]
 |false=>
 obtain⟨p,hp⟩:∃p:List Int->Bool,(λb=>!(decide (n<(b.length:Int))))=p:=⟨_,rfl⟩
 have hr:ltF l n=l.all p:=by unfold ltF;rw[h4,<- hp];rfl
 simp only[seval,go_sem,h4]
 refine AC (Y:=Nat) (λi=>i<=l.length/\(l.drop i).all p=l.all p)
  (λi=>⟨[(0,true,.one (.d (.sl JB (l.map Hu)))),(1,true,.one (.v (.int .i64 n))),(5,true,.one (.v (.int .i64 (i:Int))))],[]⟩)
  (λi=>l.length-i) 0 ⟨Nat.zero_le _,rfl⟩ ?_ ?_
 .exact wO
 rintro i ⟨hi,hJ⟩
 refine AP [] [] _ _ _ ?_
 by_cases hlt:i<l.length
 .have h1:decide ((i:Int)<(l.length:Int))=true:=decide_eq_true (by omega)
  have w1:IntKind.i64.wrap ((i:Int)+1)=((i+1:Nat):Int):=by rw[wrap_i64 (by omega) (by omega)];rfl
  have hz:=iv hlt
  have hil:(i:Int)<(l.length:Int):=by omega
  rw[A4d hlt]at hJ
  have hpb:p (l.getD i []) = !(decide (n<((l.getD i []).length:Int))):=by rw[<- hp]
  rw[hpb]at hJ
  generalize l.getD i []=b at hz hJ hpb
  cases hb:decide (n<(b.length:Int)) with
  |true=>
   have hr2:ltF l n=false:=by rw[hr,<- hJ,hb];rfl
   simp only[seval,go_sem,h1,hz,hb]
   refine⟨⟨hil,rfl⟩,?_⟩
   refine A1 [] ?_;simp only[seval,go_sem,bne,Lr,hr2]
  |false=>
  have hJ2:(l.drop (i+1)).all p=l.all p:=by rw[<- hJ,hb];rfl
  simp only[seval,go_sem,h1,w1,hz,hb]
  refine⟨⟨hil,rfl⟩,i+1,⟨hlt,hJ2⟩,(by omega),?_⟩
  exact wO
 have h1:decide ((i:Int)<(l.length:Int))=false:=decide_eq_false (by omega)
 have hr2:ltF l n=true:=by rw[hr,<- hJ,List.drop_of_length_le (by omega)];rfl
 simp only[seval,go_sem,h1]
 refine A1 [] ?_;simp only[seval,go_sem,bne,Lr,hr2]
noncomputable def aQ{X:Ctx}{w0:World}:Sy.Spec Tryz.prog X w0:=Dq 7 Tryz.call7 Uq _ _ KF3 uz
end
open Go Go.Sy Go.RowKit
noncomputable def suN(g:Int)(l:List (List Int)):Nat:=(sUn g l).choose
noncomputable def suM(g:Int)(l:List (List Int)):Nat:=(sUn g l).choose_spec.choose
theorem A4e(g:Int)(l:List (List Int)):∀u∈utF g l,okUn (suN g l) (suM g l) (wgl g) u:=(sUn g l).choose_spec.choose_spec.2
theorem A08{k:Int}{l:List (List Int)}(hk:k<=1000)(h:ltF l k=true)(hb:∀x∈l,x.length<=maxLen/\∀y∈x,u8R y):l.length<=4/\∀b∈l,okY b:=by
 unfold ltF at h
 rw[Bool.and_eq_true]at h
 have h1:¬(4:Int)<(l.length:Int):=by
  intro hh;rw[decide_eq_true hh]at h;exact absurd h.1 (by decide)
 refine⟨by omega,λb hbl=>?_⟩
 have h2:=List.all_eq_true.1 h.2 b hbl
 have h3:¬k<(b.length:Int):=by
  intro hh;rw[decide_eq_true hh]at h2;exact absurd h2 (by decide)
 exact⟨by omega,λy hy=>by have:=(hb b hbl).2 y hy;unfold u8R at this;omega⟩
def agV(P:Pg)(l:List Int)(q:Int)(k:Nat)(v:Vr):Va:=
 if v.p=true then ⟨true,0,if decide (0<(P.g.c.length:Int))=true then if decide (0<q.tmod 4)=true then P.g.c.getD (q.tmod (P.g.c.length:Int)).toNat [] else [] else []⟩
 else ⟨false,if decide (0<(l.length:Int))=true then l.getD ((k:Int).tmod (l.length:Int)).toNat 0 else 0,[]⟩
def agP(P:Pg)(l:List Int)(q:Int)(ps:List Vr)(j:Nat):List Va:=(List.range j).map λk=>agV P l q k (ps.getD k ⟨[],false⟩)
def agG(P:Pg)(f:List UInt8)(l:List Int)(q:Int)(g:Fn):List Va:=if (g.name==f)=true then agP P l q g.ps g.ps.length else []
def agI(P:Pg)(f:List UInt8)(l:List Int)(q:Int)(i:Nat):List Va:=(P.fs.take i).flatMap (agG P f l q)
def agF(P:Pg)(f:List UInt8)(l:List Int)(q:Int):List Va:=P.fs.flatMap (agG P f l q)
theorem Xf(P:Pg)(l:List Int)(q:Int)(ps:List Vr)(j:Nat):(agP P l q ps j).length=j:=by simp[agP]
theorem A4f{l:List Int}{q:Int}{ps:List Vr}{j:Nat}{v:Vr}(h:ps[j]?=some v):agP P l q ps (j+1)=agP P l q ps j++[agV P l q j v]:=by
 unfold agP;rw[List.range_succ,map_append];simp[List.getD,h]
theorem rN{f:List UInt8}{l:List Int}{q:Int}{g:Fn}(h:P.fs[i]?=some g):agI P f l q (i+1)=agI P f l q i++agG P f l q g:=by
 unfold agI;rw[List.take_add_one,h];simp
theorem eC{P:Pg}{f:List UInt8}{l:List Int}{q:Int}(h:∀g∈P.fs,g.ps.length<=5000):∀i,i<=P.fs.length->(agI P f l q i).length<=i*5000
 |0,_=>by unfold agI;simp
 |i+1,hi=>by
  have hx:P.fs[i]?=some P.fs[i]:=List.getElem?_eq_getElem hi
  rw[rN hx,List.length_append]
  have h1:=eC (f:=f) (l:=l) (q:=q) h i (by omega)
  have h2:=h _ (List.getElem_mem hi)
  have h3:(agG P f l q P.fs[i]).length<=5000:=by
   unfold agG;split
   .rw[Xf];exact h2
   exact Nat.zero_le _
  omega
theorem A09{l:List (List UInt8)}(h:i<l.length)(z:List D):(l.map cSd).getD i z=[.v (.string (bs (l.getD i [])))]:=by
 simp[List.getD,h,cSd]
theorem A0A{l:List Int}(h:i<l.length)(z:List D):(l.map iD).getD i z=[.v (.int .i64 (l.getD i 0))]:=by
 simp[List.getD,h,iD]
theorem SY(p:Bool)(n:Int)(s:List UInt8):BS [[C.v (.bool p),C.v (.int .i64 n),C.v (.string (bs s))]]:=by
 exact AAw
abbrev aR(p:Pg)(f:List UInt8)(l:List Int)(q:Int):Prop:=p.g.c.length<=1000000/\l.length<=1000000/\p.fs.length<=1000000/\(∀g∈p.fs,g.ps.length<=5000)/\u8R q
abbrev RJ(p:Pg)(f:List UInt8)(l:List Int)(q:Int):SV:=.one (.d (.sl IQ ((agF p f l q).map Va.r)))
noncomputable abbrev Ur:ArgC ((Pg)×(List UInt8)×(List Int)×(Int)×Unit):=(acS (cPg) (acS (cStr) (acS (cI6) (acS (cInt .u8) ac0))))
abbrev oQ:Prop:=Ca Tryz.prog 12 Ur (λp:(Pg)×(List UInt8)×(List Int)×(Int)×Unit=>aR p.1 p.2.1 p.2.2.1 p.2.2.2.1) (λp:(Pg)×(List UInt8)×(List Int)×(Int)×Unit=>RJ p.1 p.2.1 p.2.2.1 p.2.2.2.1)
attribute [local go_sem] Va.c Va.r rM rL GM GL pgR kR ZS Jb
theorem v8:oQ:=by
 rintro ⟨p,f,l,q,_u⟩ w fz xs hc hfz hl hx
 refine Bg Tryz.func12 rfl w fz [] [] Ur (λp:(Pg)×(List UInt8)×(List Int)×(Int)×Unit=>RJ p.1 p.2.1 p.2.2.1 p.2.2.2.1) _ xs hfz hl hx (jN rfl) ?_
 clear hx hl hfz xs
 simp only[Tryz.f12]
 obtain⟨h1,h2,h3,h4,q0,q1⟩:=hc
 obtain⟨⟨pc,pa⟩,pf⟩:=p
 dsimp only at h1 h2 h3 h4 q0 q1
 simp only[seval,go_sem]
 refine AC (Y:=Nat) (λi=>i<=pf.length)
  (λi=>⟨[(1,true,.one (.v (.string (bs f)))),(2,true,.one (.d (.sl zIw (l.map iD)))),(3,true,.one (.v (.int .u8 q))),(4,true,.one (.p 4 0 0)),(9,true,.one (.s 1000)),(10,true,.one (.v (.int .i64 (i:Int))))],
   [(4,Gb pc pa pf),(1000,.vec 0 GA ((agI ⟨⟨pc,pa⟩,pf⟩ f l q i).map Va.c))]⟩)
  (λi=>pf.length-i) 0 (Nat.zero_le _) ?_ ?_
 .refine A2 [.nil 9 1000 GA] ?_;simp only[seval,go_sem,GA,agI]
 rintro i hi
 refine AP [] [] _ _ _ ?_
 have w1:IntKind.i64.wrap ((i:Int)+1)=((i+1:Nat):Int):=by rw[wrap_i64 (by omega) (by omega)];rfl
 cases hx:pf[i]? with
 |none=>
  have k2:=List.getElem?_eq_none_iff.1 hx
  have k1:=Ai k2
  have hr:agF ⟨⟨pc,pa⟩,pf⟩ f l q=agI ⟨⟨pc,pa⟩,pf⟩ f l q i:=by unfold agF agI;dsimp only;rw[List.take_of_length_le k2]
  simp only[seval,go_sem,k1]
  refine A1 [.fz 1000] ?_;simp only[seval,go_sem,bne,RJ,hr,GA]
 |some x=>
 have hlt:=(List.getElem?_eq_some_iff.1 hx).1
 have k1:=Ah hlt
 have hz:=A07 hx
 have hs:=rN (P:=⟨⟨pc,pa⟩,pf⟩) (f:=f) (l:=l) (q:=q) (i:=i) (g:=x) hx
 have hIl:=eC (P:=⟨⟨pc,pa⟩,pf⟩) (f:=f) (l:=l) (q:=q) h4 i hi
 have hil:(i:Int)<(pf.length:Int):=by omega
 have hpl:=h4 x (List.mem_of_getElem? hx)
 obtain⟨xn,xp,xl,xb⟩:=x
 dsimp only at hpl
 generalize hA:agI ⟨⟨pc,pa⟩,pf⟩ f l q i=A at*
 cases hq:(xn==f) with
 |false=>
  have hq2:(xn != f)=true:=by simp[bne,hq]
  have hs2:agI ⟨⟨pc,pa⟩,pf⟩ f l q (i+1)=A:=by
   rw[hs];unfold agG;rw[if_neg (show ¬(xn==f)=true by rw[hq];decide),List.append_nil]
  simp only[seval,go_sem,k1,w1,hz,Fn.r,hq,hq2]
  refine⟨⟨hil,rfl⟩,i+1,hlt,(by omega),?_⟩
  refine A2 [] ?_;simp only[seval,go_sem,hs2]
 |true=>
 have hq2:(xn != f)=false:=by simp[bne,hq]
 have hs2:agI ⟨⟨pc,pa⟩,pf⟩ f l q (i+1)=A++agP ⟨⟨pc,pa⟩,pf⟩ l q xp xp.length:=by
  rw[hs];unfold agG;rw[if_pos (show (xn==f)=true from hq)]
 simp only[seval,go_sem,k1,w1,hz,Fn.r,hq,hq2]
 refine⟨⟨hil,rfl⟩,?_⟩
 refine AC (Y:=Nat) (λj=>j<=xp.length)
  (λj=>⟨[(1,true,.one (.v (.string (bs f)))),(2,true,.one (.d (.sl zIw (l.map iD)))),(3,true,.one (.v (.int .u8 q))),(4,true,.one (.p 4 0 0)),(9,true,.one (.s 1000)),(10,true,.one (.v (.int .i64 (i:Int)))),(11,true,.one (.v (.int .i64 (j:Int))))],
   [(4,Gb pc pa pf),(1000,.vec 0 GA ((A++agP ⟨⟨pc,pa⟩,pf⟩ l q xp j).map Va.c))]⟩)
  (λj=>xp.length-j) 0 (Nat.zero_le _) ?_ ?_
 .refine A2 [] ?_;simp only[seval,go_sem,agP,List.range_zero]
 rintro j hj
 refine AP [] [] _ _ _ ?_
 have w2:IntKind.i64.wrap ((j:Int)+1)=((j+1:Nat):Int):=by rw[wrap_i64 (by omega) (by omega)];rfl
 cases hy:xp[j]? with
 |none=>
  have g2:=List.getElem?_eq_none_iff.1 hy
  have g1:=Ai g2
  have hje:j=xp.length:=by omega
  simp only[seval,go_sem,w1,g1,hz,Fn.r]
  refine⟨⟨hil,rfl⟩,i+1,hlt,(by omega),?_⟩
  refine A2 [] ?_;simp only[seval,go_sem,hs2,hje]
 |some v=>
 have glt:=(List.getElem?_eq_some_iff.1 hy).1
 have g1:=Ah glt
 have hjl:(j:Int)<(xp.length:Int):=by omega
 have hv:=A06 hy
 have hln:(A++agP ⟨⟨pc,pa⟩,pf⟩ l q xp j).length<=6000000000:=by rw[List.length_append,Xf];omega
 have hps:=A4f (P:=⟨⟨pc,pa⟩,pf⟩) (l:=l) (q:=q) hy
 obtain⟨vs,vp⟩:=v
 cases vp with
 |true=>
  cases c0:decide (0<(pc.length:Int)) with
  |false=>
   have hV:agV ⟨⟨pc,pa⟩,pf⟩ l q j ⟨vs,true⟩=⟨true,0,[]⟩:=by
    unfold agV;rw[if_pos rfl,if_neg (show ¬decide (0<(pc.length:Int))=true by rw[c0];decide)]
   have ht:(A++agP ⟨⟨pc,pa⟩,pf⟩ l q xp (j+1)).map Va.c=(A++agP ⟨⟨pc,pa⟩,pf⟩ l q xp j).map Va.c++[[.v (.bool true),.v (.int .i64 0),.v (.string (bs []))]]:=by
    exact AAy
   generalize hB:A++agP ⟨⟨pc,pa⟩,pf⟩ l q xp j=B at*
   simp only[seval,go_sem,g1,w2,hz,hv,Fn.r,Vr.r,c0]
   exact IT
  |true=>
  have c1:=of_decide_eq_true c0
  cases d0:decide (0<q.tmod 4) with
  |false=>
   have hV:agV ⟨⟨pc,pa⟩,pf⟩ l q j ⟨vs,true⟩=⟨true,0,[]⟩:=by
    unfold agV;rw[if_pos rfl,if_pos (show decide (0<(pc.length:Int))=true from c0),if_neg (by rw[d0];decide)]
   have ht:(A++agP ⟨⟨pc,pa⟩,pf⟩ l q xp (j+1)).map Va.c=(A++agP ⟨⟨pc,pa⟩,pf⟩ l q xp j).map Va.c++[[.v (.bool true),.v (.int .i64 0),.v (.string (bs []))]]:=by
    exact AAy
   generalize hB:A++agP ⟨⟨pc,pa⟩,pf⟩ l q xp j=B at*
   simp only[seval,go_sem,g1,w2,hz,hv,Fn.r,Vr.r,c0,d0]
   exact IT
  |true=>
  have hV:agV ⟨⟨pc,pa⟩,pf⟩ l q j ⟨vs,true⟩=⟨true,0,pc.getD (q.tmod (pc.length:Int)).toNat []⟩:=by
   unfold agV;rw[if_pos rfl,if_pos (show decide (0<(pc.length:Int))=true from c0),if_pos d0]
  have ht:(A++agP ⟨⟨pc,pa⟩,pf⟩ l q xp (j+1)).map Va.c=(A++agP ⟨⟨pc,pa⟩,pf⟩ l q xp j).map Va.c++[[.v (.bool true),.v (.int .i64 0),.v (.string (bs (pc.getD (q.tmod (pc.length:Int)).toNat [])))]]:=by
   exact AAy
  have wq:IntKind.i64.wrap q=q:=wrap_i64 (by omega) (by omega)
  have t0:0<=q.tmod (pc.length:Int):=Int.tmod_nonneg _ q0
  have t1:q.tmod (pc.length:Int)<(pc.length:Int):=Int.tmod_lt_of_pos q c1
  have hcz:=A09 (l:=pc) (i:=(q.tmod (pc.length:Int)).toNat) (by omega)
  generalize hB:A++agP ⟨⟨pc,pa⟩,pf⟩ l q xp j=B at*
  simp only[seval,go_sem,g1,w2,hz,hv,Fn.r,Vr.r,c0,d0,wq,hcz]
  refine⟨⟨hil,rfl⟩,⟨hil,rfl⟩,⟨hjl,rfl⟩,(by omega),⟨t0,t1,rfl⟩,Bn (by kernel_rfl),⟨⟨rfl,.inl rfl⟩,(λq h=>by cases h;rfl),SY _ _ _,(by decide),(by omega),(by omega)⟩,j+1,glt,(by omega),BU (t:=⟨[(1,true,.one (.v (.string (bs f)))),(2,true,.one (.d (.sl zIw (l.map iD)))),(3,true,.one (.v (.int .u8 q))),(4,true,.one (.p 4 0 0)),(9,true,.one (.s 87)),(10,true,.one (.v (.int .i64 (i:Int)))),(11,true,.one (.v (.int .i64 ((j+1:Nat):Int))))],
   [(4,Gb pc pa pf),(87,.vec 0 GA ((A++agP ⟨⟨pc,pa⟩,pf⟩ l q xp (j+1)).map Va.c))]⟩) ?_ ?_⟩
  .refine A2 [] ?_;simp only[seval,go_sem,ht,map_append,List.flatMap_append]
  refine A2 [.mv 87 1000] ?_;simp only[seval,go_sem]
 |false=>
 cases c0:decide (0<(l.length:Int)) with
 |false=>
  have hV:agV ⟨⟨pc,pa⟩,pf⟩ l q j ⟨vs,false⟩=⟨false,0,[]⟩:=by
   unfold agV;rw[if_neg (λh=>by cases h),if_neg (by rw[c0];decide)]
  have ht:(A++agP ⟨⟨pc,pa⟩,pf⟩ l q xp (j+1)).map Va.c=(A++agP ⟨⟨pc,pa⟩,pf⟩ l q xp j).map Va.c++[[.v (.bool false),.v (.int .i64 0),.v (.string (bs []))]]:=by
   exact AAy
  generalize hB:A++agP ⟨⟨pc,pa⟩,pf⟩ l q xp j=B at*
  simp only[seval,go_sem,g1,w2,hz,hv,Fn.r,Vr.r,c0]
  exact IT
 |true=>
 have c1:=of_decide_eq_true c0
 have hV:agV ⟨⟨pc,pa⟩,pf⟩ l q j ⟨vs,false⟩=⟨false,l.getD ((j:Int).tmod (l.length:Int)).toNat 0,[]⟩:=by
  unfold agV;rw[if_neg (λh=>by cases h),if_pos c0]
 have ht:(A++agP ⟨⟨pc,pa⟩,pf⟩ l q xp (j+1)).map Va.c=(A++agP ⟨⟨pc,pa⟩,pf⟩ l q xp j).map Va.c++[[.v (.bool false),.v (.int .i64 (l.getD ((j:Int).tmod (l.length:Int)).toNat 0)),.v (.string (bs []))]]:=by
  exact AAy
 have t0:0<=(j:Int).tmod (l.length:Int):=Int.tmod_nonneg _ (by omega)
 have t1:(j:Int).tmod (l.length:Int)<(l.length:Int):=Int.tmod_lt_of_pos _ c1
 have hcz:=A0A (l:=l) (i:=((j:Int).tmod (l.length:Int)).toNat) (by omega)
 generalize hB:A++agP ⟨⟨pc,pa⟩,pf⟩ l q xp j=B at*
 simp only[seval,go_sem,g1,w2,hz,hv,Fn.r,Vr.r,c0,hcz]
 refine⟨⟨hil,rfl⟩,⟨hil,rfl⟩,⟨hjl,rfl⟩,(by omega),⟨t0,t1⟩,⟨⟨rfl,.inl rfl⟩,(λq h=>by cases h;rfl),SY _ _ _,(by decide),(by omega),(by omega)⟩,j+1,glt,(by omega),BU (t:=⟨[(1,true,.one (.v (.string (bs f)))),(2,true,.one (.d (.sl zIw (l.map iD)))),(3,true,.one (.v (.int .u8 q))),(4,true,.one (.p 4 0 0)),(9,true,.one (.s 87)),(10,true,.one (.v (.int .i64 (i:Int)))),(11,true,.one (.v (.int .i64 ((j+1:Nat):Int))))],
  [(4,Gb pc pa pf),(87,.vec 0 GA ((A++agP ⟨⟨pc,pa⟩,pf⟩ l q xp (j+1)).map Va.c))]⟩) ?_ ?_⟩
 .refine A2 [] ?_;simp only[seval,go_sem,ht,map_append,List.flatMap_append]
 refine A2 [.mv 87 1000] ?_;simp only[seval,go_sem]
noncomputable def aS{X:Ctx}{w0:World}:Sy.Spec Tryz.prog X w0:=Dq 12 Tryz.call12 Ur _ _ KF3 v8
end Go.Proofs.YtapedeoheilnnaaGreat
