/- How a run begins: the state of its program, walked. No conditions but those in each statement. -/
import Derived.Test.YtapedeoheilnnaaGreatRmh
set_option linter.all false
set_option maxRecDepth 20000
set_option maxHeartbeats 16000000
open Option (isSome_some isSome_none)
open List (append_nil getElem?_map length_map mem_map map_set mem_cons not_mem_nil)
namespace Go.Proofs.YtapedeoheilnnaaGreat
open Go Go.Sy Go.RowKit
variable{i:Nat}{B:List Na}{x:Nb}
theorem zV(v:SV)(a b:Sta)(h:leV v (.agg (stR a)))(h':leV v (.agg (stR b))):a=b:=by
 cases v with
 |one c=>exact h.elim
 |tup l=>exact h.elim
 |agg l=>
 obtain⟨c,a⟩:=a
 obtain⟨c',a'⟩:=b
 match l,h,h' with
 |[c0,c1],⟨h0,h1,_⟩,⟨g0,g1,_⟩=>
  have k0:=Ac XF (G7 h0 g0)
  have k1:=Ac XG (G7 h1 g1)
  subst k0;subst k1;rfl
noncomputable def cSta:Cod Sta:=Hh (λp=>.agg (stR p)) zV (λp=>rfl)
theorem O7(p:Sta):cSta.e p= .agg (stR p):=rfl
theorem O8(c:List Nb)(a:List Na):cSta.d (.agg [.d (.sl HY (c.map Nb.r)),.d (.sl HZ (a.map Na.r))])=some ⟨c,a⟩:=ED (e:=λp:Sta=>.agg (stR p)) (a:=⟨c,a⟩) (FA _)
theorem SF(f:Nat->Nat)(l:List Nb):(l.map Nb.c).map (λr=>r.map (rnC f))=l.map Nb.c:=HP Nb.c (λ_=>rfl) l
theorem SG(f:Nat->Nat)(l:List Na):(l.map Na.c).map (λr=>r.map (rnC f))=l.map Na.c:=HP Na.c (λ_=>rfl) l
def stN(s:List Nb)(x:Nb):Nb:=match AD (fI (s.map Nb.s)) x.s with
 |some j=>⟨x.s,(s.getD j.toNat ⟨[],0⟩).n⟩
 |none=>x
def stCs(p:List (List UInt8))(s:List Nb):List Nb:=(blC p).map (stN s)
def stp(s:List Nb)(i:Nat)(B:List Nb):List Nb:=(B.map (stN s)).take i++B.drop i
theorem A4C(s B:List Nb):stp s 0 B=B:=rfl
theorem A4D(s B:List Nb)(h:B.length<=i):stp s i B=B.map (stN s):=by
 unfold stp
 rw[List.take_of_length_le (by simpa using h),List.drop_eq_nil_of_le h,append_nil]
theorem dO(s B:List Nb)(i:Nat):(stp s i B).length=B.length:=by simp[stp];omega
theorem Vj{B:List Nb}(s:List Nb)(h:B[i]?=some x):((B.map (stN s)).take i).length=i:=by
 have:=(List.getElem?_eq_some_iff.1 h).1
 simp;omega
theorem uC{s B:List Nb}(h:B[i]?=some x):(stp s i B)[i]?=some x:=by
 unfold stp
 rw[List.getElem?_append_right (by rw[Vj s h];exact Nat.le_refl _),Vj s h,Nat.sub_self,BJ h];rfl
theorem dP{s B:List Nb}(h:B[i]?=some x):(stp s i B).set i (stN s x)=stp s (i+1) B:=by
 unfold stp
 rw[List.set_append_right _ _ (by rw[Vj s h];exact Nat.le_refl _),Vj s h,Nat.sub_self,BJ h,List.set_cons_zero,List.take_add_one,getElem?_map,h]
 simp
def cpL(d s:List Int):List Int:=s.take d.length++d.drop s.length
theorem uD(d s:List Int):(cpL d s).length=d.length:=by simp[cpL];omega
def LG(s:List Na)(x:Na):Na:=match AD (fI (s.map Na.s)) x.s with
 |some j=>⟨x.s,cpL x.l (s.getD j.toNat ⟨[],[]⟩).l⟩
 |none=>x
def stA(p:List Gy)(s:List Na):List Na:=(blA p).map (LG s)
def stq(s:List Na)(i:Nat)(B:List Na):List Na:=(B.map (LG s)).take i++B.drop i
theorem A4E(s B:List Na):stq s 0 B=B:=rfl
theorem A4F(s B:List Na)(h:B.length<=i):stq s i B=B.map (LG s):=by
 unfold stq
 rw[List.take_of_length_le (by simpa using h),List.drop_eq_nil_of_le h,append_nil]
theorem dQ(s B:List Na)(i:Nat):(stq s i B).length=B.length:=by simp[stq];omega
theorem Vk{x:Na}(s:List Na)(h:B[i]?=some x):((B.map (LG s)).take i).length=i:=by
 have:=(List.getElem?_eq_some_iff.1 h).1
 simp;omega
theorem uE{s:List Na}{x:Na}(h:B[i]?=some x):(stq s i B)[i]?=some x:=by
 unfold stq
 rw[List.getElem?_append_right (by rw[Vk s h];exact Nat.le_refl _),Vk s h,Nat.sub_self,BJ h];rfl
theorem uF{s:List Na}{x:Na}(h:B[i]?=some x):(stq s i B).set i (LG s x)=stq s (i+1) B:=by
 unfold stq
 rw[List.set_append_right _ _ (by rw[Vk s h];exact Nat.le_refl _),Vk s h,Nat.sub_self,BJ h,List.set_cons_zero,List.take_add_one,getElem?_map,h]
 simp
theorem dR(d s:List Int):(((s.map iD).map λr=>r.map oD).take (d.map cI).length)++(d.map cI).drop ((s.map iD).map λr=>r.map oD).length=(cpL d s).map cI:=by
 have e:(s.map iD).map (λr=>r.map oD)=s.map cI:=by simp[iD,oD,cI]
 rw[e,cpL,List.map_append,List.map_take,List.map_drop]
 simp
theorem qd(s:List Int):Bj ((s.map iD).map λr=>r.map oD):=by
 intro r h c hc
 simp only[List.map_map,mem_map]at h
 obtain⟨x,_,rfl⟩:=h
 simp only[Function.comp,iD,List.map_cons,List.map_nil,List.mem_singleton]at hc
 subst hc;rfl
theorem R1{α:Type}:∀{l:List α} {i:Nat} {x:α},l[i]?=some x->l.set i x=l
 |[],_,_,h=>by simp at h
 |a::l,0,x,h=>by simp at h;simp[h]
 |a::l,i+1,x,h=>by simp at h;simp[R1 h]
theorem fL(l:List Int):((l.map cI).all λr=>r.all λc=>c.names.isEmpty)=true:=by
 rw[List.all_eq_true]
 intro r hr
 obtain⟨a,_,rfl⟩:=mem_map.1 hr
 rfl
theorem TU(l:List Int):List.flatMap (λr=>List.flatMap C.names r) (l.map cI)=[]:=List.flatMap_eq_nil_iff.2 λp hp=>by
 obtain⟨a,_,rfl⟩:=mem_map.1 hp
 rfl
theorem A4G{k:Nat}{y:Na}(h:B[k]?=some y)(t:Nat):∃E,(B.map Na.c).set k [.v (.string (bs y.s)),.s t]=E/\(∀z,E.getD k z=[.v (.string (bs y.s)),.s t])/\E[k]?=some [.v (.string (bs y.s)),.s t]/\E.length=B.length/\
  (∀l:List Int,E.set k [.v (.string (bs y.s)),.ov zI (l.map cI)]=(B.set k ⟨y.s,l⟩).map Na.c)/\List.flatMap (λr=>List.flatMap C.names r) E=[t]/\(B.map Na.c)[k]?=some [.v (.string (bs y.s)),.ov zI (y.l.map cI)]:=by
 have hk:=(List.getElem?_eq_some_iff.1 h).1
 have hg:((B.map Na.c).set k [.v (.string (bs y.s)),.s t])[k]?=some [.v (.string (bs y.s)),.s t]:=by rw[List.getElem?_set_self (by simpa using hk)]
 have hc:(B.map Na.c)[k]?=some [.v (.string (bs y.s)),.ov zI (y.l.map cI)]:=by rw[getElem?_map,h];rfl
 refine⟨_,rfl,λz=>?_,hg,?_,?_,?_,hc⟩
 .rw[List.getD_eq_getElem?_getD,hg];rfl
 .simp
 .intro l
  rw[List.set_set,map_set];rfl
 .have e:B=B.take k++y::B.drop (k+1):=by
   conv=>lhs;rw[<- List.take_append_drop k B,BJ h]
  have hl:(B.take k).length=k:=by simp;omega
  have e2:(B.map Na.c).set k [.v (.string (bs y.s)),.s t]=(B.take k).map Na.c++[.v (.string (bs y.s)),.s t]::(B.drop (k+1)).map Na.c:=by
   conv=>lhs;rw[e]
   rw[List.map_append,List.set_append_right _ _ (by rw[length_map,hl];exact Nat.le_refl _),length_map,hl,Nat.sub_self]
   rfl
  rw[e2,List.flatMap_append,List.flatMap_cons,Hu,Hu]
  rfl
theorem qe:∀b,∀v∈ArgC.e (acS cPg (acS cSta ac0)) b,v.tupB=false:=by
 rintro ⟨p,s,_⟩ v hv
 simp only[FM,FL,mem_cons,not_mem_nil,or_false]at hv
 rcases hv with rfl|rfl<;>rfl
theorem Zo(m:List ML)(l:List Nb)(k:List Na):∀q,some q∈[some (ML.vec zNb (l.map Nb.c)),some (ML.vec zNa (k.map Na.c))]->KT 2 q:=by
 intro q hq c hc
 simp only[mem_cons,jS,not_mem_nil,or_false]at hq
 rcases hq with rfl|rfl
 .simp only[ML.cells,List.mem_flatMap]at hc
  obtain⟨r,hr,hc⟩:=hc
  obtain⟨a,_,rfl⟩:=mem_map.1 hr
  simp only[id,Nb.c,mem_cons,not_mem_nil,or_false]at hc
  rcases hc with rfl|rfl<;>exact .inl rfl
 simp only[ML.cells,List.mem_flatMap]at hc
 obtain⟨r,hr,hc⟩:=hc
 obtain⟨a,_,rfl⟩:=mem_map.1 hr
 simp only[id,Na.c,mem_cons,not_mem_nil,or_false]at hc
 rcases hc with rfl|rfl<;>exact .inl rfl
noncomputable def XO{P:Program}{X:Ctx}{w0:World}(sel:List SV->Bool)(a b:Sy.Spec P X w0)(hf:b.f=a.f):Sy.Spec P X w0 where
 f:=a.f
 call:=a.call
 fn t args H:=if sel args=true then a.fn t args H else b.fn t args H
 ok w I lab fz H t args xs c e fp h1 h2 h3 h4 h5 h6 h7:=by
  split at h3
  .exact a.ok w I lab fz H t args xs c e fp h1 h2 h3 h4 h5 h6 h7
  .rw[<- hf];exact b.ok w I lab fz H t args xs c e fp h1 h2 h3 h4 h5 h6 h7
 dom t args H c e fp h1 h2 h3 h4:=by
  split at h3
  .exact a.dom t args H c e fp h1 h2 h3 h4
  .exact b.dom t args H c e fp h1 h2 h3 h4
 loc t args H H' c e fp h1 h2:=by
  split at h1
  .rename_i hs;rw[if_pos hs];exact a.loc t args H H' c e fp h1 h2
  .rename_i hs;rw[if_neg hs];exact b.loc t args H H' c e fp h1 h2
def Mv(F:FuncId):List SV->Bool
 |[_,.one (.fn f _)]=>f==F
 |_=>false
theorem Kk(F:FuncId)(v:SV)(f:FuncId)(c:List C):Mv F [v,.one (.fn f c)]=(f==F):=rfl
section
variable {X:Ctx}{w0:World}
noncomputable def Lh:Sy.Spec Tryz.prog X w0:=DL 17 Tryz.call17 O6 Vi (λ_=>false) XN M_Bl (λ_=>mlO [])
 (λp _ _=>⟨rfl,rfl,rfl,Zo [] _ _⟩) (λa _ h=>by cases h) (λa _ h=>by cases h) (λ_=>rfl) uB
theorem JM:(Lh (X:=X) (w0:=w0)).f=17:=rfl
theorem JN(t:Nat)(args:List SV)(H:Hp):(Lh (X:=X) (w0:=w0)).fn t args H=spL X (O6.d H args) t H Vi (λ_=>false) XN M_Bl (λ_=>mlO []):=rfl
theorem SH{r:List C}(z:List C)(h:∀c∈r,c.names=[]):∀q,some q∈[some (ML.vec z [r])]->KT 1 q:=by
 intro q hq c hc
 simp only[mem_cons,jS,not_mem_nil,or_false]at hq
 subst hq
 simp only[ML.cells,List.flatMap_cons,List.flatMap_nil,append_nil,id]at hc
 exact .inl (h c hc)
noncomputable def R2:Sy.Spec Tryz.prog X w0:=DL 27 Tryz.call27 (Ej 46 mSt) fJ (λ_=>false) XL M_S1 (λ_=>mlO [none])
 (λp _ _=>⟨rfl,rfl,rfl,SH _ (VZ p.2)⟩) (λa _ h=>by cases h) (λa _ h=>by cases h) (λ_=>rfl) jI
theorem IG(t:Nat)(args:List SV)(H:Hp):(R2 (X:=X) (w0:=w0)).fn t args H=spL X ((Ej 46 mSt).d H args) t H fJ (λ_=>false) XL M_S1 (λ_=>mlO [none]):=rfl
noncomputable def R3:Sy.Spec Tryz.prog X w0:=DL 27 Tryz.call27 (Ej 47 mSt) fK (λ_=>false) XM M_S2 (λ_=>mlO [none])
 (λp _ _=>⟨rfl,rfl,rfl,SH _ (VZ p.2)⟩) (λa _ h=>by cases h) (λa _ h=>by cases h) (λ_=>rfl) jJ
noncomputable def MQ:Sy.Spec Tryz.prog X w0:=XO (Mv 46) R2 R3 rfl
theorem JO:(MQ (X:=X) (w0:=w0)).f=27:=rfl
theorem JP(t:Nat)(args:List SV)(H:Hp):(MQ (X:=X) (w0:=w0)).fn t args H=if Mv 46 args=true then (R2 (X:=X) (w0:=w0)).fn t args H else (R3 (X:=X) (w0:=w0)).fn t args H:=rfl
theorem IH(t:Nat)(args:List SV)(H:Hp):(R3 (X:=X) (w0:=w0)).fn t args H=spL X ((Ej 47 mSt).d H args) t H fK (λ_=>false) XM M_S2 (λ_=>mlO [none]):=rfl
end
noncomputable abbrev O9:ArgL (Pg×Sta×Unit):=US (acS cPg (acS cSta ac0)) qe
abbrev Z6(p:Pg×Sta×Unit):Prop:=Vi (p.1,())/\(∀x∈p.1.g.a,1<=x.n)/\p.2.1.cs.length<=1000000/\p.2.1.ar.length<=1000000
abbrev PC(_:Pg×Sta×Unit):SV:=.agg [.s 0,.s 1]
abbrev M_st(p:Pg×Sta×Unit):List (Option ML):=[some (.vec zNb ((stCs p.1.g.c p.2.1.cs).map Nb.c)),some (.vec zNa ((stA p.1.g.a p.2.1.ar).map Na.c))]
attribute [local go_sem] Fa.mem Fa.memO Fa.pan ML.ch ML.ren MO O5 MP LF Vf Vg HA H9 HB Dd HG HF O8 O7 chL MN J0 FG FF H7 fcN Ve Z2 frC J1 H8 lmH lmO VY R0 VX Vd Vb Vc J2 IC DJ Cg Ci NQ VN Hu SG HH SF nmX pgR De Cx Cy EK EJ E1 EH rnC Cf DP Cr stR CO EE vrQ J3
attribute[local go_sem] xt in
theorem uG:DY Tryz.prog 31 O9.args O9.mem Z6 (λ_=>false) PC M_st (λ_=>mlO []):=by
 rintro ⟨⟨⟨pc,pa⟩,pf⟩,⟨sc,sa⟩,_u⟩ w M I lab fz xs ⟨hB,hg1,hs1,hs2⟩ hA hl hx
 dsimp only at hs1 hs2 hB hg1
 refine Bn Tryz.func31 rfl [] w M I lab fz false [] (M_st (⟨⟨pc,pa⟩,pf⟩,⟨sc,sa⟩,())) [Lh,MQ] [(18,[.mv 17 0,.mv 600017 1])] (O9.args (⟨⟨pc,pa⟩,pf⟩,⟨sc,sa⟩,())) (PC (⟨⟨pc,pa⟩,pf⟩,⟨sc,sa⟩,())) xs hA hl hx ?_ (jN rfl) (Nat.zero_le _) rfl (by intro q hq;cases hq) ?_
 .intro v hv k hk
  rw[(acS cPg (acS cSta ac0)).n _ v hv]at hk;cases hk
 clear hx hl hA xs
 simp only[Tryz.f31]
 simp only[seval,go_sem,↓A0,JM,JN,JO,JP,IG,IH,Kk]
 refine⟨hB,⟨by simp,by simpa using hs1⟩,?_⟩
 have hlb:(blC pc).length=pc.length:=by simp[blC]
 have hpl:pc.length<=1000000:=hB.1
 refine AK (Y:=Nat) (λi=>i<=(blC pc).length)
  (λi=>⟨[(3,true,.one (.p 3 0 0)),(4,true,.one (.p 4 0 0)),(5,true,.one (.p 5 0 0)),(6,true,.one (.d (.mp (mpI (fI (sc.map Nb.s)))))),(24,true,.one (.s 17)),(25,true,.one (.v (.int .i64 ((blC pc).length:Int)))),(26,true,.one (.v (.int .i64 (i:Int))))],
   [(3,.vec 0 [.v (.bool false),.v (.bool false)] [[.d (.sl HY (sc.map Nb.r)),.d (.sl HZ (sa.map Na.r))]]),(4,.vec 0 (tgN 27 2) [[.v (.slice none 0 0),.v (.slice none 0 0)]]),(5,.vec 0 (tgN 27 2) [[.s 17,.s 600017]]),(17,.vec 0 zNb ((stp sc i (blC pc)).map Nb.c)),(600017,.vec 0 zNa ((blA pa).map Na.c))]⟩)
  (λi=>(blC pc).length-i) 0 (Nat.zero_le _) ?_ ?_
 .refine A4 [] ?_;simp only[seval,go_sem,↓A0,A4C,XL,M_S1]
 rintro i hi
 refine AZ [Lh,MQ] [(18,[.mv 17 0,.mv 600017 1])] _ _ _ ?_
 have w1:IntKind.i64.wrap ((i:Int)+1)=((i+1:Nat):Int):=by rw[wrap_i64 (by omega) (by omega)];rfl
 cases hx:(blC pc)[i]? with
 |none=>
  have h2:=List.getElem?_eq_none_iff.1 hx
  have h1:=B9 h2
  simp only[seval,go_sem,↓A0,JM,JN,JO,JP,IG,IH,Kk,h1]
  rw[A4D sc (blC pc) h2]
  have hla:(blA pa).length=pa.length:=by simp[blA]
  have hpa2:pa.length<=1000000:=hB.2.1
  refine⟨⟨by simp,by simpa using hs2⟩,?_⟩
  refine AK (Y:=Nat) (λk=>k<=(blA pa).length)
   (λk=>⟨[(3,true,.one (.p 3 0 0)),(4,true,.one (.p 4 0 0)),(5,true,.one (.p 5 0 0)),(11,true,.one (.d (.mp (mpI (fI (sa.map Na.s)))))),(57,true,.one (.s 600017)),(58,true,.one (.v (.int .i64 ((blA pa).length:Int)))),(59,true,.one (.v (.int .i64 (k:Int))))],
  [(
   3,.vec 0 [.v (.bool false),.v (.bool false)] [[.d (.sl HY (sc.map Nb.r)),.d (.sl HZ (sa.map Na.r))]]),(4,.vec 0 (tgN 27 2) [[.v (.slice none 0 0),.v (.slice none 0 0)]]),(5,.vec 0 (tgN 27 2) [[.s 17,.s 600017]]),(17,.vec 0 zNb ((stCs pc sc).map Nb.c)),(600017,.vec 0 zNa ((stq sa k (blA pa)).map Na.c))]⟩)
   (λk=>(blA pa).length-k) 0 (Nat.zero_le _) ?_ ?_
  .refine A4 [] ?_;simp only[seval,go_sem,↓A0,XM,M_S2,stCs,A4E]
  rintro k hk
  refine AZ [Lh,MQ] [(13,[.unr 600017 k 1 1002]),(18,[.mv 17 0,.mv 600017 1])] _ _ _ ?_
  have w2:IntKind.i64.wrap ((k:Int)+1)=((k+1:Nat):Int):=by rw[wrap_i64 (by omega) (by omega)];rfl
  cases hy:(blA pa)[k]? with
  |none=>
   have g2:=List.getElem?_eq_none_iff.1 hy
   have g1:=B9 g2
   simp only[seval,go_sem,↓A0,JM,JN,JO,JP,IG,IH,Kk,g1,G0,HI]
   rw[A4F sa (blA pa) g2]
   refine A1 [] ?_;simp only[seval,go_sem,bne,PC,M_st,stA,A5,↓A0,G0,HI]
  |some y=>
  have glt:=(List.getElem?_eq_some_iff.1 hy).1
  have g1:=B8 glt
  have hyq:=uE (s:=sa) hy
  have hset:=uF (s:=sa) hy
  have hyl:0<y.l.length:=by
   obtain⟨x,hx1,hx2⟩:=mem_map.1 (List.mem_of_getElem? hy)
   have:=hg1 x hx1
   rw[<- hx2];simp;omega
  obtain⟨ys,yl⟩:=y
  obtain⟨E,e1,e2,e3,e4,e5,e6,e7⟩:=A4G hyq 1002
  dsimp only at e1 e2 e3 e5 e7 hyl
  have hil:(k:Int)<((blA pa).length:Int):=by omega
  have glt2:k<(stq sa k (blA pa)).length:=by rw[dQ];exact glt
  have hil2:(k:Int)<((stq sa k (blA pa)).length:Int):=by rw[dQ];exact hil
  cases hm:AD (fI (sa.map Na.s)) ys with
  |none=>
   have hkp:stq sa (k+1) (blA pa)=stq sa k (blA pa):=by
    rw[<- hset]
    have:LG sa ⟨ys,yl⟩=⟨ys,yl⟩:=by unfold LG;rw[hm]
    rw[this];exact R1 hyq
   have e5':=e5 yl
   rw[R1 hyq]at e5'
   simp only[seval,go_sem,↓A0,JM,JN,JO,JP,IG,IH,Kk,g1,e1,e2,e3,e4,e7,w2,hm,isSome_some,isSome_none]
   simp only[zI]at e5'
   refine⟨⟨hil2,rfl⟩,glt2,k+1,glt,(by omega),CJ (t:=⟨[(3,true,.one (.p 3 0 0)),(4,true,.one (.p 4 0 0)),(5,true,.one (.p 5 0 0)),(11,true,.one (.d (.mp (mpI (fI (sa.map Na.s)))))),(57,true,.one (.s 600017)),(58,true,.one (.v (.int .i64 ((blA pa).length:Int)))),(59,true,.one (.v (.int .i64 ((k+1:Nat):Int))))],
    [(3,.vec 0 [.v (.bool false),.v (.bool false)] [[.d (.sl HY (sc.map Nb.r)),.d (.sl HZ (sa.map Na.r))]]),(4,.vec 0 (tgN 27 2) [[.v (.slice none 0 0),.v (.slice none 0 0)]]),(5,.vec 0 (tgN 27 2) [[.s 17,.s 600017]]),(17,.vec 0 zNb ((stCs pc sc).map Nb.c)),(600017,.vec 0 zNa E),(1002,.vec 0 zI (yl.map cI))]⟩) ?_ ?_⟩
   .refine A4 [] ?_;simp only[seval,go_sem,↓A0,e6,TU]
   refine A4 [.fold 600017 k 1] ?_;simp only[seval,go_sem,↓A0,e2,e3,e5',fL,zI,hkp]
  |some j=>
  have hfl:=Vu hm
  have hjn:0<=j/\j<(sa.length:Int):=by simpa using hfl
  have hj:=qb hjn
  generalize hsl:(sa.getD j.toNat ⟨[],[]⟩).l=sl at*
  have hkp:(stq sa k (blA pa)).set k ⟨ys,cpL yl sl⟩=stq sa (k+1) (blA pa):=by
   rw[<- hset]
   have:LG sa ⟨ys,yl⟩=⟨ys,cpL yl sl⟩:=by unfold LG;rw[hm];dsimp only;rw[hsl]
   rw[this]
  have e5':=e5 (cpL yl sl)
  rw[hkp]at e5'
  have hcp:=dR yl sl
  have hcs:=qd sl
  simp only[seval,go_sem,↓A0,JM,JN,JO,JP,IG,IH,Kk,g1,e1,e2,e3,e4,e7,w2,hm,hj,isSome_some,isSome_none]
  simp only[zI]at e5'
  refine⟨⟨hil2,rfl⟩,glt2,⟨hil2,rfl⟩,glt2,glt2,hjn,⟨rfl,hyl,(λq h=>by cases h;rfl),hcs⟩,CH (by kernel_rfl),k+1,glt,(by omega),CJ (t:=⟨[(3,true,.one (.p 3 0 0)),(4,true,.one (.p 4 0 0)),(5,true,.one (.p 5 0 0)),(11,true,.one (.d (.mp (mpI (fI (sa.map Na.s)))))),(57,true,.one (.s 600017)),(58,true,.one (.v (.int .i64 ((blA pa).length:Int)))),(59,true,.one (.v (.int .i64 ((k+1:Nat):Int))))],
   [(3,.vec 0 [.v (.bool false),.v (.bool false)] [[.d (.sl HY (sc.map Nb.r)),.d (.sl HZ (sa.map Na.r))]]),(4,.vec 0 (tgN 27 2) [[.v (.slice none 0 0),.v (.slice none 0 0)]]),(5,.vec 0 (tgN 27 2) [[.s 17,.s 600017]]),(17,.vec 0 zNb ((stCs pc sc).map Nb.c)),(600017,.vec 0 zNa E),(1002,.vec 1 zI ((cpL yl sl).map cI))]⟩) ?_ ?_⟩
  .simp only[length_map]at hcp
   refine A4 [] ?_;simp only[seval,go_sem,↓A0,e6,TU,hcp]
  refine A4 [.fold 600017 k 1] ?_;simp only[seval,go_sem,↓A0,e2,e3,e5',fL,zI]
 |some x=>
 have hlt:=(List.getElem?_eq_some_iff.1 hx).1
 have h1:=B8 hlt
 have hg:=uC (s:=sc) hx
 obtain⟨xs,xn⟩:=x
 have hs:∀z,((stp sc i (blC pc)).map Nb.c).getD i z=[.v (.string (bs xs)),.v (.int .i64 xn)]:=by intro z;simp[List.getD,hg,Nb.c]
 cases hm:AD (fI (sc.map Nb.s)) xs with
 |none=>
  simp only[seval,go_sem,↓A0,JM,JN,JO,JP,IG,IH,Kk,h1,hs,hm,w1,isSome_some,isSome_none]
  have hil:(i:Int)<((stp sc i (blC pc)).length:Int):=by rw[dO];omega
  have hkp:stp sc (i+1) (blC pc)=stp sc i (blC pc):=by
   rw[<- dP hx]
   have:stN sc ⟨xs,xn⟩=⟨xs,xn⟩:=by unfold stN;rw[hm]
   rw[this];exact R1 hg
  refine⟨⟨hil,rfl⟩,(by omega),i+1,hlt,(by omega),?_⟩
  refine A4 [] ?_;simp only[seval,go_sem,↓A0,hkp]
 |some j=>
 have hfl:=Vu hm
 have hjn:0<=j/\j<(sc.length:Int):=by simpa using hfl
 have hj:=qa hjn
 simp only[seval,go_sem,↓A0,JM,JN,JO,JP,IG,IH,Kk,h1,hs,hm,hj,w1,isSome_some,isSome_none]
 have hil:(i:Int)<((stp sc i (blC pc)).length:Int):=by rw[dO];omega
 have hxl:i<(stp sc i (blC pc)).length:=by omega
 have hkp:((stp sc i (blC pc)).map Nb.c).set i [.v (.string (bs xs)),.v (.int .i64 (sc.getD j.toNat ⟨[],0⟩).n)]=(stp sc (i+1) (blC pc)).map Nb.c:=by
  rw[<- dP hx]
  have:stN sc ⟨xs,xn⟩=⟨xs,(sc.getD j.toNat ⟨[],0⟩).n⟩:=by unfold stN;rw[hm]
  rw[this,map_set];rfl
 refine⟨⟨hil,rfl⟩,hxl,hjn,⟨hil,rfl⟩,hxl,⟨hxl,(by decide)⟩,CH (by kernel_rfl),i+1,hlt,(by omega),?_⟩
 refine A4 [] ?_;simp only[seval,go_sem,↓A0,hkp]
end Go.Proofs.YtapedeoheilnnaaGreat
