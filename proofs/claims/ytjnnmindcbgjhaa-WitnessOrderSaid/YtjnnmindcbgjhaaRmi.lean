/- How a run begins: the state of its program, walked. No conditions but those in each statement. -/
import Derived.Test.YtjnnmindcbgjhaaRmh
set_option linter.unusedVariables false
set_option linter.unusedSimpArgs false
set_option maxRecDepth 20000
set_option maxHeartbeats 16000000
open List (append_nil getElem?_map length_map)
namespace Go.Proofs.Ytjnnmindcbgjhaa
open Go Go.Sy Go.RowKit
theorem tl (v:SV) (a b:Sta) (h:leV v (.agg (stR a))) (h':leV v (.agg (stR b))):a=b:=by
 cases v with
 |one c=>exact h.elim
 |tup l=>exact h.elim
 |agg l=>
  obtain⟨c,a⟩:=a
  obtain⟨c',a'⟩:=b
  match l,h,h' with
  |[c0,c1],⟨h0,h1,_⟩,⟨g0,g1,_⟩=>
   have k0:=B2 Y6 (FY h0 g0)
   have k1:=B2 Y7 (FY h1 g1)
   subst k0;subst k1;rfl
noncomputable def cSta:Cod Sta:=Hk (fun p=>.agg (stR p)) tl (fun p=>rfl)
theorem Vt (p:Sta):cSta.e p= .agg (stR p):=rfl
theorem Vu (c:List Nb) (a:List Na):cSta.d (.agg [.d (.sl NZ (c.map Nb.r)),.d (.sl Nc (a.map Na.r))])=some ⟨c,a⟩:=E9 (e:=fun p:Sta=>.agg (stR p)) (a:=⟨c,a⟩) (EV _)
theorem tm (c:List Nb):mSt.d [.d (.sl NZ (c.map Nb.r)),.d (.sl Nc [])]=some ⟨c,[]⟩:=Qj c []
theorem Vv (f:Nat→Nat) (l:List Nb):(l.map Nb.c).map (fun r=>r.map (rnC f))=l.map Nb.c:=G1 Nb.c (fun _=>rfl) l
theorem Vx (f:Nat→Nat) (l:List Na):(l.map Na.c).map (fun r=>r.map (rnC f))=l.map Na.c:=G1 Na.c (fun _=>rfl) l
def stN (s:List Nb) (x:Nb):Nb:=match B0 (fI (s.map Nb.s)) x.s with
 |some j=>⟨x.s,(s.getD j.toNat ⟨[],0⟩).n⟩
 |none=>x
def stCs (p:List (List UInt8)) (s:List Nb):List Nb:=(blC p).map (stN s)
def stp (s:List Nb) (i:Nat) (B:List Nb):List Nb:=(B.map (stN s)).take i++B.drop i
theorem zS (s B:List Nb):stp s 0 B=B:=rfl
theorem zU (s B:List Nb) {i:Nat} (h:B.length≤i):stp s i B=B.map (stN s):=by
 unfold stp
 rw[List.take_of_length_le (by simpa using h),List.drop_eq_nil_of_le h,append_nil]
theorem Y8 (s B:List Nb) (i:Nat):(stp s i B).length=B.length:=by simp[stp];omega
theorem Sg {B:List Nb} {i:Nat} {x:Nb} (s:List Nb) (h:B[i]?=some x):((B.map (stN s)).take i).length=i:=by
 have:=(List.getElem?_eq_some_iff.1 h).1
 simp;omega
theorem mJ {s B:List Nb} {i:Nat} {x:Nb} (h:B[i]?=some x):(stp s i B)[i]?=some x:=by
 unfold stp
 rw[List.getElem?_append_right (by rw[Sg s h];exact Nat.le_refl _),Sg s h,Nat.sub_self,Bn h];rfl
theorem Y9 {s B:List Nb} {i:Nat} {x:Nb} (h:B[i]?=some x):(stp s i B).set i (stN s x)=stp s (i+1) B:=by
 unfold stp
 rw[List.set_append_right _ _ (by rw[Sg s h];exact Nat.le_refl _),Sg s h,Nat.sub_self,Bn h,List.set_cons_zero,List.take_add_one,getElem?_map,h]
 simp
def cpL (d s:List Int):List Int:=s.take d.length++d.drop s.length
theorem mK (d s:List Int):(cpL d s).length=d.length:=by simp[cpL];omega
def Nd (s:List Na) (x:Na):Na:=match B0 (fI (s.map Na.s)) x.s with
 |some j=>⟨x.s,cpL x.l (s.getD j.toNat ⟨[],[]⟩).l⟩
 |none=>x
def stA (p:List Gy) (s:List Na):List Na:=(blA p).map (Nd s)
def stq (s:List Na) (i:Nat) (B:List Na):List Na:=(B.map (Nd s)).take i++B.drop i
theorem zV (s B:List Na):stq s 0 B=B:=rfl
theorem zW (s B:List Na) {i:Nat} (h:B.length≤i):stq s i B=B.map (Nd s):=by
 unfold stq
 rw[List.take_of_length_le (by simpa using h),List.drop_eq_nil_of_le h,append_nil]
theorem YA (s B:List Na) (i:Nat):(stq s i B).length=B.length:=by simp[stq];omega
theorem Sh {B:List Na} {i:Nat} {x:Na} (s:List Na) (h:B[i]?=some x):((B.map (Nd s)).take i).length=i:=by
 have:=(List.getElem?_eq_some_iff.1 h).1
 simp;omega
theorem mL {s B:List Na} {i:Nat} {x:Na} (h:B[i]?=some x):(stq s i B)[i]?=some x:=by
 unfold stq
 rw[List.getElem?_append_right (by rw[Sh s h];exact Nat.le_refl _),Sh s h,Nat.sub_self,Bn h];rfl
theorem mM {s B:List Na} {i:Nat} {x:Na} (h:B[i]?=some x):(stq s i B).set i (Nd s x)=stq s (i+1) B:=by
 unfold stq
 rw[List.set_append_right _ _ (by rw[Sh s h];exact Nat.le_refl _),Sh s h,Nat.sub_self,Bn h,List.set_cons_zero,List.take_add_one,getElem?_map,h]
 simp
theorem mN (d s:List Int):(((s.map iD).map fun r=>r.map oD).take (d.map cI).length)++(d.map cI).drop ((s.map iD).map fun r=>r.map oD).length=(cpL d s).map cI:=by
 have e:(s.map iD).map (fun r=>r.map oD)=s.map cI:=by simp[iD,oD,cI]
 rw[e,cpL,List.map_append,List.map_take,List.map_drop]
 simp
theorem zX (s:List Int):BS ((s.map iD).map fun r=>r.map oD):=by
 intro r h c hc
 simp only[List.map_map,List.mem_map]at h
 obtain⟨x,_,rfl⟩:=h
 simp only[Function.comp,iD,List.map_cons,List.map_nil,List.mem_singleton]at hc
 subst hc;rfl
theorem P6 {α:Type}:∀{l:List α} {i:Nat} {x:α},l[i]?=some x→l.set i x=l
 |[],_,_,h=>by simp at h
 |a::l,0,x,h=>by simp at h;simp[h]
 |a::l,i+1,x,h=>by simp at h;simp[P6 h]
theorem io (l:List Int):((l.map cI).all fun r=>r.all fun c=>c.names.isEmpty)=true:=by
 rw[List.all_eq_true]
 intro r hr
 obtain⟨a,_,rfl⟩:=List.mem_map.1 hr
 rfl
theorem E8 (l:List Int):List.flatMap (fun r=>List.flatMap C.names r) (l.map cI)=[]:=List.flatMap_eq_nil_iff.2 fun p hp=>by
 obtain⟨a,_,rfl⟩:=List.mem_map.1 hp
 rfl
theorem zY {B:List Na} {k:Nat} {y:Na} (h:B[k]?=some y) (t:Nat):∃E,(B.map Na.c).set k [.v (.string (bs y.s)),.s t]=E∧(∀z,E.getD k z=[.v (.string (bs y.s)),.s t])∧E[k]?=some [.v (.string (bs y.s)),.s t]∧E.length=B.length∧
  (∀l:List Int,E.set k [.v (.string (bs y.s)),.ov zI (l.map cI)]=(B.set k ⟨y.s,l⟩).map Na.c)∧List.flatMap (fun r=>List.flatMap C.names r) E=[t]∧(B.map Na.c)[k]?=some [.v (.string (bs y.s)),.ov zI (y.l.map cI)]:=by
 have hk:=(List.getElem?_eq_some_iff.1 h).1
 have hg:((B.map Na.c).set k [.v (.string (bs y.s)),.s t])[k]?=some [.v (.string (bs y.s)),.s t]:=by rw[List.getElem?_set_self (by simpa using hk)]
 have hc:(B.map Na.c)[k]?=some [.v (.string (bs y.s)),.ov zI (y.l.map cI)]:=by rw[getElem?_map,h];rfl
 refine⟨_,rfl,fun z=>?_,hg,?_,?_,?_,hc⟩
 ·rw[List.getD_eq_getElem?_getD,hg];rfl
 ·simp
 ·intro l
  rw[List.set_set,List.map_set];rfl
 ·have e:B=B.take k++y::B.drop (k+1):=by
   conv=>lhs;rw[← List.take_append_drop k B,Bn h]
  have hl:(B.take k).length=k:=by simp;omega
  have e2:(B.map Na.c).set k [.v (.string (bs y.s)),.s t]=(B.take k).map Na.c++[.v (.string (bs y.s)),.s t]::(B.drop (k+1)).map Na.c:=by
   conv=>lhs;rw[e]
   rw[List.map_append,List.set_append_right _ _ (by rw[length_map,hl];exact Nat.le_refl _),length_map,hl,Nat.sub_self]
   rfl
  rw[e2,List.flatMap_append,List.flatMap_cons,LJ,LJ]
  rfl
theorem zZ:∀b,∀v∈ArgC.e (acS cPg (acS cSta ac0)) b,v.tupB=false:=by
 rintro ⟨p,s,_⟩ v hv
 simp only[Ho,Hn,List.mem_cons,List.not_mem_nil,or_false]at hv
 rcases hv with rfl|rfl<;>rfl
theorem bp (m:List ML) (l:List Nb) (k:List Na):∀q,some q∈[some (ML.vec zNb (l.map Nb.c)),some (ML.vec zNa (k.map Na.c))]→DS 2 q:=by
 intro q hq c hc
 simp only[List.mem_cons,jS,List.not_mem_nil,or_false]at hq
 rcases hq with rfl|rfl
 ·simp only[ML.cells,List.mem_flatMap]at hc
  obtain⟨r,hr,hc⟩:=hc
  obtain⟨a,_,rfl⟩:=List.mem_map.1 hr
  simp only[id,Nb.c,List.mem_cons,List.not_mem_nil,or_false]at hc
  rcases hc with rfl|rfl<;>exact .inl rfl
 ·simp only[ML.cells,List.mem_flatMap]at hc
  obtain⟨r,hr,hc⟩:=hc
  obtain⟨a,_,rfl⟩:=List.mem_map.1 hr
  simp only[id,Na.c,List.mem_cons,List.not_mem_nil,or_false]at hc
  rcases hc with rfl|rfl<;>exact .inl rfl
noncomputable def Tj {P:Program} {X:Ctx} {w0:World} (sel:List SV→Bool) (a b:Sy.Spec P X w0) (hf:b.f=a.f):Sy.Spec P X w0 where
 f:=a.f
 call:=a.call
 fn t args H:=if sel args=true then a.fn t args H else b.fn t args H
 ok w I lab fz H t args xs c e fp h1 h2 h3 h4 h5 h6 h7:=by
  split at h3
  ·exact a.ok w I lab fz H t args xs c e fp h1 h2 h3 h4 h5 h6 h7
  ·rw[← hf];exact b.ok w I lab fz H t args xs c e fp h1 h2 h3 h4 h5 h6 h7
 dom t args H c e fp h1 h2 h3 h4:=by
  split at h3
  ·exact a.dom t args H c e fp h1 h2 h3 h4
  ·exact b.dom t args H c e fp h1 h2 h3 h4
 loc t args H H' c e fp h1 h2:=by
  split at h1
  ·rename_i hs;rw[if_pos hs];exact a.loc t args H H' c e fp h1 h2
  ·rename_i hs;rw[if_neg hs];exact b.loc t args H H' c e fp h1 h2
def Lj (F:FuncId):List SV→Bool
 |[_,.one (.fn f _)]=>f==F
 |_=>false
theorem Je (F:FuncId) (v:SV) (f:FuncId) (c:List C):Lj F [v,.one (.fn f c)]=(f==F):=rfl
section
variable {X:Ctx} {w0:World}
noncomputable def JE:Sy.Spec Try.prog X w0:=Dt 29 Try.call29 Mo Qk (fun _=>false) Ti M_Bl (fun _=>mlO [])
 (fun p _ _=>⟨rfl,rfl,rfl,bp [] _ _⟩) (fun a _ h=>by cases h) (fun a _ h=>by cases h) (fun _=>rfl) mI
theorem EU:(JE (X:=X) (w0:=w0)).f=29:=rfl
theorem I6 (t:Nat) (args:List SV) (H:Hp):(JE (X:=X) (w0:=w0)).fn t args H=spL X (Mo.d H args) t H Qk (fun _=>false) Ti M_Bl (fun _=>mlO []):=rfl
theorem Pz {r:List C} (z:List C) (h:∀c∈r,c.names=[]):∀q,some q∈[some (ML.vec z [r])]→DS 1 q:=by
 intro q hq c hc
 simp only[List.mem_cons,jS,List.not_mem_nil,or_false]at hq
 subst hq
 simp only[ML.cells,List.flatMap_cons,List.flatMap_nil,append_nil,id]at hc
 exact .inl (h c hc)
noncomputable def P7:Sy.Spec Try.prog X w0:=Dt 31 Try.call31 (DV 46 mSt) Z7 (fun _=>false) Tg M_S1 (fun _=>mlO [none])
 (fun p _ _=>⟨rfl,rfl,rfl,Pz _ (SU p.2)⟩) (fun a _ h=>by cases h) (fun a _ h=>by cases h) (fun _=>rfl) bm
theorem Gm (t:Nat) (args:List SV) (H:Hp):(P7 (X:=X) (w0:=w0)).fn t args H=spL X ((DV 46 mSt).d H args) t H Z7 (fun _=>false) Tg M_S1 (fun _=>mlO [none]):=rfl
noncomputable def P8:Sy.Spec Try.prog X w0:=Dt 31 Try.call31 (DV 47 mSt) Z8 (fun _=>false) Th M_S2 (fun _=>mlO [none])
 (fun p _ _=>⟨rfl,rfl,rfl,Pz _ (SU p.2)⟩) (fun a _ h=>by cases h) (fun a _ h=>by cases h) (fun _=>rfl) bn
noncomputable def LK:Sy.Spec Try.prog X w0:=Tj (Lj 46) P7 P8 rfl
theorem I7:(LK (X:=X) (w0:=w0)).f=31:=rfl
theorem I8 (t:Nat) (args:List SV) (H:Hp):(LK (X:=X) (w0:=w0)).fn t args H=if Lj 46 args=true then (P7 (X:=X) (w0:=w0)).fn t args H else (P8 (X:=X) (w0:=w0)).fn t args H:=rfl
theorem Gn (t:Nat) (args:List SV) (H:Hp):(P8 (X:=X) (w0:=w0)).fn t args H=spL X ((DV 47 mSt).d H args) t H Z8 (fun _=>false) Th M_S2 (fun _=>mlO [none]):=rfl
end
noncomputable abbrev Mp:ArgL (Pg×Sta×Unit):=Vp (acS cPg (acS cSta ac0)) zZ
abbrev VC (p:Pg×Sta×Unit):Prop:=Qk (p.1,())∧(∀x∈p.1.g.a,1≤x.n)∧p.2.1.cs.length≤1000000∧p.2.1.ar.length≤1000000
abbrev Vy (_:Pg×Sta×Unit):SV:=.agg [.s 0,.s 1]
abbrev M_st (p:Pg×Sta×Unit):List (Option ML):=[some (.vec zNb ((stCs p.1.g.c p.2.1.cs).map Nb.c)),some (.vec zNa ((stA p.1.g.a p.2.1.ar).map Na.c))]
attribute [local go_sem] Fa.mem Fa.memO Fa.pan ML.ch ML.ren Sd Vq Se Jt SZ Sa Fo Fm Fp EA NF NE Vu Vt chL Sc Hf E5 E4 Fu fcN SY V8 frC Hg Fl lmH lmO SS P5 SR Qj tm SW SX Hh Gg EZ Dl Dm M3 Sr LJ Vx Jz Vv nmX pgR EY Dj Dk FS FR EX Fb rnC DW EC Db stR CT Ee vrQ Hi
attribute[local go_sem] xt in
theorem mO:EB Try.prog 35 Mp.args Mp.mem VC (fun _=>false) Vy M_st (fun _=>mlO []):=by
 rintro ⟨⟨⟨pc,pa⟩,pf⟩,⟨sc,sa⟩,_u⟩ w M I lab fz xs ⟨hB,hg1,hs1,hs2⟩ hA hl hx
 dsimp only at hs1 hs2 hB hg1
 refine Cj Try.func35 rfl [] w M I lab fz false [] (M_st (⟨⟨pc,pa⟩,pf⟩,⟨sc,sa⟩,())) [JE,LK] [(18,[.mv 17 0,.mv 600017 1])] (Mp.args (⟨⟨pc,pa⟩,pf⟩,⟨sc,sa⟩,())) (Vy (⟨⟨pc,pa⟩,pf⟩,⟨sc,sa⟩,())) xs hA hl hx ?_ (jN rfl) (Nat.zero_le _) rfl (by intro q hq;cases hq) ?_
 ·intro v hv k hk
  rw[(acS cPg (acS cSta ac0)).n _ v hv]at hk;cases hk
 clear hx hl hA xs
 simp only[Try.f35]
 simp only[↓eB,seval,go_sem,↓A1,EU,I6,I7,I8,Gm,Gn,Je]
 refine⟨hB,⟨by simp,by simpa using hs1⟩,?_⟩
 have hlb:(blC pc).length=pc.length:=by simp[blC]
 have hpl:pc.length≤1000000:=hB.1
 refine Ac (Y:=Nat) (fun i=>i≤(blC pc).length)
  (fun i=>⟨[(3,true,.one (.p 3 0 0)),(4,true,.one (.p 4 0 0)),(5,true,.one (.p 5 0 0)),(6,true,.one (.d (.mp (mpI (fI (sc.map Nb.s)))))),(24,true,.one (.s 17)),(25,true,.one (.v (.int .i64 ((blC pc).length:Int)))),(26,true,.one (.v (.int .i64 (i:Int))))],
   [(3,.vec 0 [.v (.bool false),.v (.bool false)] [[.d (.sl NZ (sc.map Nb.r)),.d (.sl Nc (sa.map Na.r))]]),(4,.vec 0 (tgN 44 2) [[.v (.slice none 0 0),.v (.slice none 0 0)]]),(5,.vec 0 (tgN 44 2) [[.s 17,.s 600017]]),(17,.vec 0 zNb ((stp sc i (blC pc)).map Nb.c)),(600017,.vec 0 zNa ((blA pa).map Na.c))]⟩)
  (fun i=>(blC pc).length-i) 0 (Nat.zero_le _) ?_ ?_
 ·refine A2 [] ?_;simp only[↓eB,seval,go_sem,↓A1,zS,Tg,M_S1]
 ·rintro i hi
  refine Aq [JE,LK] [(18,[.mv 17 0,.mv 600017 1])] _ _ _ ?_
  have w1:IntKind.i64.wrap ((i:Int)+1)=((i+1:Nat):Int):=by rw[wrap_i64 (by omega) (by omega)];rfl
  cases hx:(blC pc)[i]? with
  |none=>
   have h2:=List.getElem?_eq_none_iff.1 hx
   have h1:=BA h2
   simp only[↓eB,seval,go_sem,↓A1,EU,I6,I7,I8,Gm,Gn,Je,h1]
   rw[zU sc (blC pc) h2]
   have hla:(blA pa).length=pa.length:=by simp[blA]
   have hpa2:pa.length≤1000000:=hB.2.1
   refine⟨⟨by simp,by simpa using hs2⟩,?_⟩
   refine Ac (Y:=Nat) (fun k=>k≤(blA pa).length)
    (fun k=>⟨[(3,true,.one (.p 3 0 0)),(4,true,.one (.p 4 0 0)),(5,true,.one (.p 5 0 0)),(11,true,.one (.d (.mp (mpI (fI (sa.map Na.s)))))),(57,true,.one (.s 600017)),(58,true,.one (.v (.int .i64 ((blA pa).length:Int)))),(59,true,.one (.v (.int .i64 (k:Int))))],
   [(
    3,.vec 0 [.v (.bool false),.v (.bool false)] [[.d (.sl NZ (sc.map Nb.r)),.d (.sl Nc (sa.map Na.r))]]),(4,.vec 0 (tgN 44 2) [[.v (.slice none 0 0),.v (.slice none 0 0)]]),(5,.vec 0 (tgN 44 2) [[.s 17,.s 600017]]),(17,.vec 0 zNb ((stCs pc sc).map Nb.c)),(600017,.vec 0 zNa ((stq sa k (blA pa)).map Na.c))]⟩)
    (fun k=>(blA pa).length-k) 0 (Nat.zero_le _) ?_ ?_
   ·refine A2 [] ?_;simp only[↓eB,seval,go_sem,↓A1,Th,M_S2,stCs,zV]
   ·rintro k hk
    refine Aq [JE,LK] [(13,[.unr 600017 k 1 1002]),(18,[.mv 17 0,.mv 600017 1])] _ _ _ ?_
    have w2:IntKind.i64.wrap ((k:Int)+1)=((k+1:Nat):Int):=by rw[wrap_i64 (by omega) (by omega)];rfl
    cases hy:(blA pa)[k]? with
    |none=>
     have g2:=List.getElem?_eq_none_iff.1 hy
     have g1:=BA g2
     simp only[↓eB,seval,go_sem,↓A1,EU,I6,I7,I8,Gm,Gn,Je,g1,Mn,Py]
     rw[zW sa (blA pa) g2]
     refine A0 [] ?_;simp only[↓eB,seval,go_sem,bne,Vy,M_st,stA,A6,↓A1,Mn,Py]
    |some y=>
     have glt:=(List.getElem?_eq_some_iff.1 hy).1
     have g1:=B9 glt
     have hyq:=mL (s:=sa) hy
     have hset:=mM (s:=sa) hy
     have hyl:0<y.l.length:=by
      obtain⟨x,hx1,hx2⟩:=List.mem_map.1 (List.mem_of_getElem? hy)
      have:=hg1 x hx1
      rw[← hx2];simp;omega
     obtain⟨ys,yl⟩:=y
     obtain⟨E,e1,e2,e3,e4,e5,e6,e7⟩:=zY hyq 1002
     dsimp only at e1 e2 e3 e5 e7 hyl
     have hil:(k:Int)<((blA pa).length:Int):=by omega
     have glt2:k<(stq sa k (blA pa)).length:=by rw[YA];exact glt
     have hil2:(k:Int)<((stq sa k (blA pa)).length:Int):=by rw[YA];exact hil
     cases hm:B0 (fI (sa.map Na.s)) ys with
     |none=>
      have hkp:stq sa (k+1) (blA pa)=stq sa k (blA pa):=by
       rw[← hset]
       have:Nd sa ⟨ys,yl⟩=⟨ys,yl⟩:=by unfold Nd;rw[hm]
       rw[this];exact P6 hyq
      have e5':=e5 yl
      rw[P6 hyq]at e5'
      simp only[↓eB,seval,go_sem,↓A1,EU,I6,I7,I8,Gm,Gn,Je,g1,e1,e2,e3,e4,e7,w2,hm,Option.isSome_some,Option.isSome_none]
      simp only[zI]at e5'
      refine⟨⟨hil2,rfl⟩,glt2,k+1,glt,(by omega),B4 (t:=⟨[(3,true,.one (.p 3 0 0)),(4,true,.one (.p 4 0 0)),(5,true,.one (.p 5 0 0)),(11,true,.one (.d (.mp (mpI (fI (sa.map Na.s)))))),(57,true,.one (.s 600017)),(58,true,.one (.v (.int .i64 ((blA pa).length:Int)))),(59,true,.one (.v (.int .i64 ((k+1:Nat):Int))))],
       [(3,.vec 0 [.v (.bool false),.v (.bool false)] [[.d (.sl NZ (sc.map Nb.r)),.d (.sl Nc (sa.map Na.r))]]),(4,.vec 0 (tgN 44 2) [[.v (.slice none 0 0),.v (.slice none 0 0)]]),(5,.vec 0 (tgN 44 2) [[.s 17,.s 600017]]),(17,.vec 0 zNb ((stCs pc sc).map Nb.c)),(600017,.vec 0 zNa E),(1002,.vec 0 zI (yl.map cI))]⟩) ?_ ?_⟩
      ·refine A2 [] ?_;simp only[↓eB,seval,go_sem,↓A1,e6,E8]
      ·refine A2 [.fold 600017 k 1] ?_;simp only[↓eB,seval,go_sem,↓A1,e2,e3,e5',io,zI,hkp]
     |some j=>
      have hfl:=Sq hm
      have hjn:0≤j∧j<(sa.length:Int):=by simpa using hfl
      have hj:=il hjn
      generalize hsl:(sa.getD j.toNat ⟨[],[]⟩).l=sl at*
      have hkp:(stq sa k (blA pa)).set k ⟨ys,cpL yl sl⟩=stq sa (k+1) (blA pa):=by
       rw[← hset]
       have:Nd sa ⟨ys,yl⟩=⟨ys,cpL yl sl⟩:=by unfold Nd;rw[hm];dsimp only;rw[hsl]
       rw[this]
      have e5':=e5 (cpL yl sl)
      rw[hkp]at e5'
      have hcp:=mN yl sl
      have hcs:=zX sl
      simp only[↓eB,seval,go_sem,↓A1,EU,I6,I7,I8,Gm,Gn,Je,g1,e1,e2,e3,e4,e7,w2,hm,hj,Option.isSome_some,Option.isSome_none]
      simp only[zI]at e5'
      refine⟨⟨hil2,rfl⟩,glt2,⟨hil2,rfl⟩,glt2,glt2,hjn,⟨rfl,hyl,(fun q h=>by cases h;rfl),hcs⟩,Dw (by kernel_rfl),k+1,glt,(by omega),B4 (t:=⟨[(3,true,.one (.p 3 0 0)),(4,true,.one (.p 4 0 0)),(5,true,.one (.p 5 0 0)),(11,true,.one (.d (.mp (mpI (fI (sa.map Na.s)))))),(57,true,.one (.s 600017)),(58,true,.one (.v (.int .i64 ((blA pa).length:Int)))),(59,true,.one (.v (.int .i64 ((k+1:Nat):Int))))],
       [(3,.vec 0 [.v (.bool false),.v (.bool false)] [[.d (.sl NZ (sc.map Nb.r)),.d (.sl Nc (sa.map Na.r))]]),(4,.vec 0 (tgN 44 2) [[.v (.slice none 0 0),.v (.slice none 0 0)]]),(5,.vec 0 (tgN 44 2) [[.s 17,.s 600017]]),(17,.vec 0 zNb ((stCs pc sc).map Nb.c)),(600017,.vec 0 zNa E),(1002,.vec 1 zI ((cpL yl sl).map cI))]⟩) ?_ ?_⟩
      ·simp only[length_map]at hcp
       refine A2 [] ?_;simp only[↓eB,seval,go_sem,↓A1,e6,E8,hcp]
      ·refine A2 [.fold 600017 k 1] ?_;simp only[↓eB,seval,go_sem,↓A1,e2,e3,e5',io,zI]
  |some x=>
   have hlt:=(List.getElem?_eq_some_iff.1 hx).1
   have h1:=B9 hlt
   have hg:=mJ (s:=sc) hx
   obtain⟨xs,xn⟩:=x
   have hs:∀z,((stp sc i (blC pc)).map Nb.c).getD i z=[.v (.string (bs xs)),.v (.int .i64 xn)]:=by intro z;simp[List.getD,hg,Nb.c]
   cases hm:B0 (fI (sc.map Nb.s)) xs with
   |none=>
    simp only[↓eB,seval,go_sem,↓A1,EU,I6,I7,I8,Gm,Gn,Je,h1,hs,hm,w1,Option.isSome_some,Option.isSome_none]
    have hil:(i:Int)<((stp sc i (blC pc)).length:Int):=by rw[Y8];omega
    have hkp:stp sc (i+1) (blC pc)=stp sc i (blC pc):=by
     rw[← Y9 hx]
     have:stN sc ⟨xs,xn⟩=⟨xs,xn⟩:=by unfold stN;rw[hm]
     rw[this];exact P6 hg
    refine⟨⟨hil,rfl⟩,(by omega),i+1,hlt,(by omega),?_⟩
    refine A2 [] ?_;simp only[↓eB,seval,go_sem,↓A1,hkp]
   |some j=>
    have hfl:=Sq hm
    have hjn:0≤j∧j<(sc.length:Int):=by simpa using hfl
    have hj:=ik hjn
    simp only[↓eB,seval,go_sem,↓A1,EU,I6,I7,I8,Gm,Gn,Je,h1,hs,hm,hj,w1,Option.isSome_some,Option.isSome_none]
    have hil:(i:Int)<((stp sc i (blC pc)).length:Int):=by rw[Y8];omega
    have hxl:i<(stp sc i (blC pc)).length:=by omega
    have hkp:((stp sc i (blC pc)).map Nb.c).set i [.v (.string (bs xs)),.v (.int .i64 (sc.getD j.toNat ⟨[],0⟩).n)]=(stp sc (i+1) (blC pc)).map Nb.c:=by
     rw[← Y9 hx]
     have:stN sc ⟨xs,xn⟩=⟨xs,(sc.getD j.toNat ⟨[],0⟩).n⟩:=by unfold stN;rw[hm]
     rw[this,List.map_set];rfl
    refine⟨⟨hil,rfl⟩,hxl,hjn,⟨hil,rfl⟩,hxl,⟨hxl,(by decide)⟩,Dw (by kernel_rfl),i+1,hlt,(by omega),?_⟩
    refine A2 [] ?_;simp only[↓eB,seval,go_sem,↓A1,hkp]
end Go.Proofs.Ytjnnmindcbgjhaa
