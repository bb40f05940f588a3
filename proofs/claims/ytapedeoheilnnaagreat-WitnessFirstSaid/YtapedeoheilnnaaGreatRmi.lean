/- How a run begins: the state of its program, walked. No conditions but those in each statement. -/
import Derived.Test.YtapedeoheilnnaaGreatRmh
import Derived.Test.YtapedeoheilnnaaGreatRmc
import Derived.Test.YtapedeoheilnnaaGreatGq
set_option linter.all false
set_option maxRecDepth 20000
set_option maxHeartbeats 16000000
open Option (isSome_some isSome_none)
open List (append_nil getElem?_map length_map mem_map map_set mem_cons not_mem_nil drop_zero)
namespace Go.Proofs.YtapedeoheilnnaaGreat
open Go Go.Sy Go.RowKit
theorem s4{P:Prop}(h:P:=by
 have hJ2:=hgo rfl
 simp only[seval,go_sem,CP,CQ,CR,CS,Va.c,isSome_some,isSome_none,h1,hz,w1]
 repeat refine AX ?_
 refine⟨i+1,⟨hlt,hJ2⟩,by omega,A2 [] ?_⟩
 simp only[seval,go_sem]):P:=h
theorem AAl{P:Prop}(h:P:=by
 intro r hr
 obtain⟨a,_,rfl⟩:=mem_map.1 hr
 rfl):P:=h
theorem AAx{P:Prop}(h:P:=by
 simp only[Uk,Tryz.f48,QY,Tn,List.drop_succ_cons,drop_zero]
 simp only[seval,go_sem,stM,pnM,pnH,he,hc]
 try exact KA):P:=h
variable{i:Nat}{B:List Na}{x:Nb}
theorem zp(v:SV)(a b:Sta)(h:leV v (.agg (stR a)))(h':leV v (.agg (stR b))):a=b:=by
 cases v with
 |one c=>exact h.elim
 |tup l=>exact h.elim
 |agg l=>
 obtain⟨c,a⟩:=a
 obtain⟨c',a'⟩:=b
 match l,h,h' with
 |[c0,c1],⟨h0,h1,_⟩,⟨g0,g1,_⟩=>
  have k0:=Aj XO (GH h0 g0)
  have k1:=Aj XP (GH h1 g1)
  subst k0;subst k1;rfl
noncomputable def cSta:Cod Sta:=Hl (λp=>.agg (stR p)) zp (λp=>rfl)
theorem MW(p:Sta):cSta.e p= .agg (stR p):=rfl
theorem MX(c:List Nb)(a:List Na):cSta.d (.agg [.d (.sl Hc (c.map Nb.r)),.d (.sl Hd (a.map Na.r))])=some ⟨c,a⟩:=E4 (e:=λp:Sta=>.agg (stR p)) (a:=⟨c,a⟩) (F4 _)
theorem SM(f:Nat->Nat)(l:List Nb):(l.map Nb.c).map (λr=>r.map (rnC f))=l.map Nb.c:=HU Nb.c (λ_=>rfl) l
theorem SN(f:Nat->Nat)(l:List Na):(l.map Na.c).map (λr=>r.map (rnC f))=l.map Na.c:=HU Na.c (λ_=>rfl) l
def stN(s:List Nb)(x:Nb):Nb:=match AH (fI (s.map Nb.s)) x.s with
 |some j=>⟨x.s,(s.getD j.toNat ⟨[],0⟩).n⟩
 |none=>x
def stCs(p:List (List UInt8))(s:List Nb):List Nb:=(blC p).map (stN s)
def stp(s:List Nb)(i:Nat)(B:List Nb):List Nb:=(B.map (stN s)).take i++B.drop i
theorem A4S(s B:List Nb):stp s 0 B=B:=rfl
theorem A4T(s B:List Nb)(h:B.length<=i):stp s i B=B.map (stN s):=by
 unfold stp
 rw[List.take_of_length_le (by simpa using h),List.drop_eq_nil_of_le h,append_nil]
theorem dn(s B:List Nb)(i:Nat):(stp s i B).length=B.length:=by simp[stp];omega
theorem Vz{B:List Nb}(s:List Nb)(h:B[i]?=some x):((B.map (stN s)).take i).length=i:=by
 have:=(List.getElem?_eq_some_iff.1 h).1
 simp;omega
theorem uc{s B:List Nb}(h:B[i]?=some x):(stp s i B)[i]?=some x:=by
 unfold stp
 rw[List.getElem?_append_right (by rw[Vz s h];exact Nat.le_refl _),Vz s h,Nat.sub_self,BF h];rfl
theorem dq{s B:List Nb}(h:B[i]?=some x):(stp s i B).set i (stN s x)=stp s (i+1) B:=by
 unfold stp
 rw[List.set_append_right _ _ (by rw[Vz s h];exact Nat.le_refl _),Vz s h,Nat.sub_self,BF h,List.set_cons_zero,List.take_add_one,getElem?_map,h]
 simp
def cpL(d s:List Int):List Int:=s.take d.length++d.drop s.length
theorem ud(d s:List Int):(cpL d s).length=d.length:=by simp[cpL];omega
def LN(s:List Na)(x:Na):Na:=match AH (fI (s.map Na.s)) x.s with
 |some j=>⟨x.s,cpL x.l (s.getD j.toNat ⟨[],[]⟩).l⟩
 |none=>x
def stA(p:List Gy)(s:List Na):List Na:=(blA p).map (LN s)
def stq(s:List Na)(i:Nat)(B:List Na):List Na:=(B.map (LN s)).take i++B.drop i
theorem A4U(s B:List Na):stq s 0 B=B:=rfl
theorem A4V(s B:List Na)(h:B.length<=i):stq s i B=B.map (LN s):=by
 unfold stq
 rw[List.take_of_length_le (by simpa using h),List.drop_eq_nil_of_le h,append_nil]
theorem dr(s B:List Na)(i:Nat):(stq s i B).length=B.length:=by simp[stq];omega
theorem W0{x:Na}(s:List Na)(h:B[i]?=some x):((B.map (LN s)).take i).length=i:=by
 have:=(List.getElem?_eq_some_iff.1 h).1
 simp;omega
theorem ue{s:List Na}{x:Na}(h:B[i]?=some x):(stq s i B)[i]?=some x:=by
 unfold stq
 rw[List.getElem?_append_right (by rw[W0 s h];exact Nat.le_refl _),W0 s h,Nat.sub_self,BF h];rfl
theorem uf{s:List Na}{x:Na}(h:B[i]?=some x):(stq s i B).set i (LN s x)=stq s (i+1) B:=by
 unfold stq
 rw[List.set_append_right _ _ (by rw[W0 s h];exact Nat.le_refl _),W0 s h,Nat.sub_self,BF h,List.set_cons_zero,List.take_add_one,getElem?_map,h]
 simp
theorem XX(d s:List Int):(((s.map iD).map λr=>r.map oD).take (d.map cI).length)++(d.map cI).drop ((s.map iD).map λr=>r.map oD).length=(cpL d s).map cI:=by
 have e:(s.map iD).map (λr=>r.map oD)=s.map cI:=by simp[iD,oD,cI]
 rw[e,cpL,List.map_append,List.map_take,List.map_drop]
 simp
theorem fk(s:List Int):BS ((s.map iD).map λr=>r.map oD):=by
 intro r h c hc
 simp only[List.map_map,mem_map]at h
 obtain⟨x,_,rfl⟩:=h
 simp only[Function.comp,iD,List.map_cons,List.map_nil,List.mem_singleton]at hc
 subst hc;rfl
theorem RD{α:Type}:∀{l:List α} {i:Nat} {x:α},l[i]?=some x->l.set i x=l
 |[],_,_,h=>by simp at h
 |a::l,0,x,h=>by simp at h;simp[h]
 |a::l,i+1,x,h=>by simp at h;simp[RD h]
theorem ZO(l:List Int):((l.map cI).all λr=>r.all λc=>c.names.isEmpty)=true:=by
 rw[List.all_eq_true]
 exact AAl
theorem MF(l:List Int):List.flatMap (λr=>List.flatMap C.names r) (l.map cI)=[]:=List.flatMap_eq_nil_iff.2 λp hp=>by
 obtain⟨a,_,rfl⟩:=mem_map.1 hp
 rfl
theorem A4W{k:Nat}{y:Na}(h:B[k]?=some y)(t:Nat):∃E,(B.map Na.c).set k [.v (.string (bs y.s)),.s t]=E/\(∀z,E.getD k z=[.v (.string (bs y.s)),.s t])/\E[k]?=some [.v (.string (bs y.s)),.s t]/\E.length=B.length/\
  (∀l:List Int,E.set k [.v (.string (bs y.s)),.ov zI (l.map cI)]=(B.set k ⟨y.s,l⟩).map Na.c)/\List.flatMap (λr=>List.flatMap C.names r) E=[t]/\(B.map Na.c)[k]?=some [.v (.string (bs y.s)),.ov zI (y.l.map cI)]:=by
 have hk:=(List.getElem?_eq_some_iff.1 h).1
 have hg:((B.map Na.c).set k [.v (.string (bs y.s)),.s t])[k]?=some [.v (.string (bs y.s)),.s t]:=by rw[List.getElem?_set_self (by simpa using hk)]
 have hc:(B.map Na.c)[k]?=some [.v (.string (bs y.s)),.ov zI (y.l.map cI)]:=by rw[getElem?_map,h];rfl
 refine⟨_,rfl,λz=>?_,hg,?_,?_,?_,hc⟩
 .rw[List.getD_eq_getElem?_getD,hg];rfl
 .simp
 .intro l
  rw[List.set_set,map_set];rfl
 .have e:B=B.take k++y::B.drop (k+1):=by
   conv=>lhs;rw[<- List.take_append_drop k B,BF h]
  have hl:(B.take k).length=k:=by simp;omega
  have e2:(B.map Na.c).set k [.v (.string (bs y.s)),.s t]=(B.take k).map Na.c++[.v (.string (bs y.s)),.s t]::(B.drop (k+1)).map Na.c:=by
   conv=>lhs;rw[e]
   rw[List.map_append,List.set_append_right _ _ (by rw[length_map,hl];exact Nat.le_refl _),length_map,hl,Nat.sub_self]
   rfl
  rw[e2,List.flatMap_append,List.flatMap_cons,G9,G9]
  rfl
theorem rH:∀b,∀v∈ArgC.e (acS cPg (acS cSta ac0)) b,v.tupB=false:=by
 rintro ⟨p,s,_⟩ v hv
 simp only[FV,FU,mem_cons,not_mem_nil,or_false]at hv
 rcases hv with rfl|rfl<;>rfl
theorem aK(m:List ML)(l:List Nb)(k:List Na):∀q,some q∈[some (ML.vec zNb (l.map Nb.c)),some (ML.vec zNa (k.map Na.c))]->Ka 2 q:=by
 intro q hq c hc
 simp only[mem_cons,jS,not_mem_nil,or_false]at hq
 rcases hq with rfl|rfl
 .simp only[ML.cells,List.mem_flatMap]at hc
  obtain⟨r,hr,hc⟩:=hc
  obtain⟨a,_,rfl⟩:=mem_map.1 hr
  simp only[id,Nb.c,mem_cons,not_mem_nil,or_false]at hc
  rcases hc with rfl|rfl<;>exact .inl rfl
 simp only[ML.cells,List.mem_flatMap]at hc
 obtain⟨r,hr,hc⟩:=hc
 obtain⟨a,_,rfl⟩:=mem_map.1 hr
 simp only[id,Na.c,mem_cons,not_mem_nil,or_false]at hc
 rcases hc with rfl|rfl<;>exact .inl rfl
noncomputable def XY{P:Program}{X:Ctx}{w0:World}(sel:List SV->Bool)(a b:Sy.Spec P X w0)(hf:b.f=a.f):Sy.Spec P X w0 where
 f:=a.f
 call:=a.call
 fn t args H:=if sel args=true then a.fn t args H else b.fn t args H
 ok w I lab fz H t args xs c e fp h1 h2 h3 h4 h5 h6 h7:=by
  split at h3
  .exact a.ok w I lab fz H t args xs c e fp h1 h2 h3 h4 h5 h6 h7
  .rw[<- hf];exact b.ok w I lab fz H t args xs c e fp h1 h2 h3 h4 h5 h6 h7
 dom t args H c e fp h1 h2 h3 h4:=by
  split at h3
  .exact a.dom t args H c e fp h1 h2 h3 h4
  .exact b.dom t args H c e fp h1 h2 h3 h4
 loc t args H H' c e fp h1 h2:=by
  split at h1
  .rename_i hs;rw[if_pos hs];exact a.loc t args H H' c e fp h1 h2
  .rename_i hs;rw[if_neg hs];exact b.loc t args H H' c e fp h1 h2
def N3(F:FuncId):List SV->Bool
 |[_,.one (.fn f _)]=>f==F
 |_=>false
theorem Ku(F:FuncId)(v:SV)(f:FuncId)(c:List C):N3 F [v,.one (.fn f c)]=(f==F):=rfl
section
variable {X:Ctx}{w0:World}
noncomputable def Lq:Sy.Spec Tryz.prog X w0:=Dc 17 Tryz.call17 OJ Vy (λ_=>false) XW M_Bl (λ_=>mlO [])
 (λp _ _=>⟨rfl,rfl,rfl,aK [] _ _⟩) (λa _ h=>by cases h) (λa _ h=>by cases h) (λ_=>rfl) ub
theorem JU:(Lq (X:=X) (w0:=w0)).f=17:=rfl
theorem JV(t:Nat)(args:List SV)(H:Hp):(Lq (X:=X) (w0:=w0)).fn t args H=spL X (OJ.d H args) t H Vy (λ_=>false) XW M_Bl (λ_=>mlO []):=rfl
theorem SO{r:List C}(z:List C)(h:∀c∈r,c.names=[]):∀q,some q∈[some (ML.vec z [r])]->Ka 1 q:=by
 intro q hq c hc
 simp only[mem_cons,jS,not_mem_nil,or_false]at hq
 subst hq
 simp only[ML.cells,List.flatMap_cons,List.flatMap_nil,append_nil,id]at hc
 exact .inl (h c hc)
noncomputable def RE:Sy.Spec Tryz.prog X w0:=Dc 27 Tryz.call27 (Er 46 mSt) fh (λ_=>false) XU M_S1 (λ_=>mlO [none])
 (λp _ _=>⟨rfl,rfl,rfl,SO _ (Vp p.2)⟩) (λa _ h=>by cases h) (λa _ h=>by cases h) (λ_=>rfl) jn
theorem IR(t:Nat)(args:List SV)(H:Hp):(RE (X:=X) (w0:=w0)).fn t args H=spL X ((Er 46 mSt).d H args) t H fh (λ_=>false) XU M_S1 (λ_=>mlO [none]):=rfl
noncomputable def RF:Sy.Spec Tryz.prog X w0:=Dc 27 Tryz.call27 (Er 47 mSt) fj (λ_=>false) XV M_S2 (λ_=>mlO [none])
 (λp _ _=>⟨rfl,rfl,rfl,SO _ (Vp p.2)⟩) (λa _ h=>by cases h) (λa _ h=>by cases h) (λ_=>rfl) jo
noncomputable def MY:Sy.Spec Tryz.prog X w0:=XY (N3 46) RE RF rfl
theorem JW:(MY (X:=X) (w0:=w0)).f=27:=rfl
theorem JX(t:Nat)(args:List SV)(H:Hp):(MY (X:=X) (w0:=w0)).fn t args H=if N3 46 args=true then (RE (X:=X) (w0:=w0)).fn t args H else (RF (X:=X) (w0:=w0)).fn t args H:=rfl
theorem IU(t:Nat)(args:List SV)(H:Hp):(RF (X:=X) (w0:=w0)).fn t args H=spL X ((Er 47 mSt).d H args) t H fj (λ_=>false) XV M_S2 (λ_=>mlO [none]):=rfl
end
noncomputable abbrev OK:ArgL (Pg×Sta×Unit):=Uj (acS cPg (acS cSta ac0)) rH
abbrev ZP(p:Pg×Sta×Unit):Prop:=Vy (p.1,())/\(∀x∈p.1.g.a,1<=x.n)/\p.2.1.cs.length<=1000000/\p.2.1.ar.length<=1000000
abbrev PT(_:Pg×Sta×Unit):SV:=.agg [.s 0,.s 1]
abbrev M_st(p:Pg×Sta×Unit):List (Option ML):=[some (.vec zNb ((stCs p.1.g.c p.2.1.cs).map Nb.c)),some (.vec zNa ((stA p.1.g.a p.2.1.ar).map Na.c))]
section
attribute [local go_sem] Fa.mem Fa.memO Fa.pan ML.ch ML.ren LL OI LM LK Vt Vu H4 Gz H5 Di GM GL MX MW chL MU IJ F6 F5 Gv fcN Vq ZK frC IK Gx lmH lmO Tj P4 Ti Tm Tk Tl IL Hm DH Cj Ck Ng Vg G9 SN Ez SM nmX pgR Dh D3 D4 ED E9 E5 EE rnC Ci DS Cu stR CU E8 vrQ IM
attribute[local go_sem] xt in
theorem ug:Dj Tryz.prog 31 OK.args OK.mem ZP (λ_=>false) PT M_st (λ_=>mlO []):=by
 rintro ⟨⟨⟨pc,pa⟩,pf⟩,⟨sc,sa⟩,_u⟩ w M I lab fz xs ⟨hB,hg1,hs1,hs2⟩ hA hl hx
 dsimp only at hs1 hs2 hB hg1
 refine Bz Tryz.func31 rfl [] w M I lab fz false [] (M_st (⟨⟨pc,pa⟩,pf⟩,⟨sc,sa⟩,())) [Lq,MY] [(18,[.mv 17 0,.mv 600017 1])] (OK.args (⟨⟨pc,pa⟩,pf⟩,⟨sc,sa⟩,())) (PT (⟨⟨pc,pa⟩,pf⟩,⟨sc,sa⟩,())) xs hA hl hx ?_ (jN rfl) (Nat.zero_le _) rfl (by intro q hq;cases hq) ?_
 .intro v hv k hk
  rw[(acS cPg (acS cSta ac0)).n _ v hv]at hk;cases hk
 clear hx hl hA xs
 simp only[Tryz.f31]
 simp only[seval,go_sem,↓A0,JU,JV,JW,JX,IR,IU,Ku]
 refine⟨hB,⟨by simp,by simpa using hs1⟩,?_⟩
 have hlb:(blC pc).length=pc.length:=by simp[blC]
 have hpl:pc.length<=1000000:=hB.1
 refine AC (Y:=Nat) (λi=>i<=(blC pc).length)
  (λi=>⟨[(3,true,.one (.p 3 0 0)),(4,true,.one (.p 4 0 0)),(5,true,.one (.p 5 0 0)),(6,true,.one (.d (.mp (mpI (fI (sc.map Nb.s)))))),(24,true,.one (.s 17)),(25,true,.one (.v (.int .i64 ((blC pc).length:Int)))),(26,true,.one (.v (.int .i64 (i:Int))))],
   [(3,.vec 0 [.v (.bool false),.v (.bool false)] [[.d (.sl Hc (sc.map Nb.r)),.d (.sl Hd (sa.map Na.r))]]),(4,.vec 0 (tgN 27 2) [[.v (.slice none 0 0),.v (.slice none 0 0)]]),(5,.vec 0 (tgN 27 2) [[.s 17,.s 600017]]),(17,.vec 0 zNb ((stp sc i (blC pc)).map Nb.c)),(600017,.vec 0 zNa ((blA pa).map Na.c))]⟩)
  (λi=>(blC pc).length-i) 0 (Nat.zero_le _) ?_ ?_
 .refine A2 [] ?_;simp only[seval,go_sem,↓A0,A4S,XU,M_S1]
 rintro i hi
 refine AP [Lq,MY] [(18,[.mv 17 0,.mv 600017 1])] _ _ _ ?_
 have w1:IntKind.i64.wrap ((i:Int)+1)=((i+1:Nat):Int):=by rw[wrap_i64 (by omega) (by omega)];rfl
 cases hx:(blC pc)[i]? with
 |none=>
  have h2:=List.getElem?_eq_none_iff.1 hx
  have h1:=Ai h2
  simp only[seval,go_sem,↓A0,JU,JV,JW,JX,IR,IU,Ku,h1]
  rw[A4T sc (blC pc) h2]
  have hla:(blA pa).length=pa.length:=by simp[blA]
  have hpa2:pa.length<=1000000:=hB.2.1
  refine⟨⟨by simp,by simpa using hs2⟩,?_⟩
  refine AC (Y:=Nat) (λk=>k<=(blA pa).length)
   (λk=>⟨[(3,true,.one (.p 3 0 0)),(4,true,.one (.p 4 0 0)),(5,true,.one (.p 5 0 0)),(11,true,.one (.d (.mp (mpI (fI (sa.map Na.s)))))),(57,true,.one (.s 600017)),(58,true,.one (.v (.int .i64 ((blA pa).length:Int)))),(59,true,.one (.v (.int .i64 (k:Int))))],
  [(
   3,.vec 0 [.v (.bool false),.v (.bool false)] [[.d (.sl Hc (sc.map Nb.r)),.d (.sl Hd (sa.map Na.r))]]),(4,.vec 0 (tgN 27 2) [[.v (.slice none 0 0),.v (.slice none 0 0)]]),(5,.vec 0 (tgN 27 2) [[.s 17,.s 600017]]),(17,.vec 0 zNb ((stCs pc sc).map Nb.c)),(600017,.vec 0 zNa ((stq sa k (blA pa)).map Na.c))]⟩)
   (λk=>(blA pa).length-k) 0 (Nat.zero_le _) ?_ ?_
  .refine A2 [] ?_;simp only[seval,go_sem,↓A0,XV,M_S2,stCs,A4U]
  rintro k hk
  refine AP [Lq,MY] [(13,[.unr 600017 k 1 1002]),(18,[.mv 17 0,.mv 600017 1])] _ _ _ ?_
  have w2:IntKind.i64.wrap ((k:Int)+1)=((k+1:Nat):Int):=by rw[wrap_i64 (by omega) (by omega)];rfl
  cases hy:(blA pa)[k]? with
  |none=>
   have g2:=List.getElem?_eq_none_iff.1 hy
   have g1:=Ai g2
   simp only[seval,go_sem,↓A0,JU,JV,JW,JX,IR,IU,Ku,g1,E0,FF]
   rw[A4V sa (blA pa) g2]
   refine A1 [] ?_;simp only[seval,go_sem,bne,PT,M_st,stA,A3,↓A0,E0,FF]
  |some y=>
  have glt:=(List.getElem?_eq_some_iff.1 hy).1
  have g1:=Ah glt
  have hyq:=ue (s:=sa) hy
  have hset:=uf (s:=sa) hy
  have hyl:0<y.l.length:=by
   obtain⟨x,hx1,hx2⟩:=mem_map.1 (List.mem_of_getElem? hy)
   have:=hg1 x hx1
   rw[<- hx2];simp;omega
  obtain⟨ys,yl⟩:=y
  obtain⟨E,e1,e2,e3,e4,e5,e6,e7⟩:=A4W hyq 1002
  dsimp only at e1 e2 e3 e5 e7 hyl
  have hil:(k:Int)<((blA pa).length:Int):=by omega
  have glt2:k<(stq sa k (blA pa)).length:=by rw[dr];exact glt
  have hil2:(k:Int)<((stq sa k (blA pa)).length:Int):=by rw[dr];exact hil
  cases hm:AH (fI (sa.map Na.s)) ys with
  |none=>
   have hkp:stq sa (k+1) (blA pa)=stq sa k (blA pa):=by
    rw[<- hset]
    have:LN sa ⟨ys,yl⟩=⟨ys,yl⟩:=by unfold LN;rw[hm]
    rw[this];exact RD hyq
   have e5':=e5 yl
   rw[RD hyq]at e5'
   simp only[seval,go_sem,↓A0,JU,JV,JW,JX,IR,IU,Ku,g1,e1,e2,e3,e4,e7,w2,hm,isSome_some,isSome_none]
   simp only[zI]at e5'
   refine⟨⟨hil2,rfl⟩,glt2,k+1,glt,(by omega),BU (t:=⟨[(3,true,.one (.p 3 0 0)),(4,true,.one (.p 4 0 0)),(5,true,.one (.p 5 0 0)),(11,true,.one (.d (.mp (mpI (fI (sa.map Na.s)))))),(57,true,.one (.s 600017)),(58,true,.one (.v (.int .i64 ((blA pa).length:Int)))),(59,true,.one (.v (.int .i64 ((k+1:Nat):Int))))],
    [(3,.vec 0 [.v (.bool false),.v (.bool false)] [[.d (.sl Hc (sc.map Nb.r)),.d (.sl Hd (sa.map Na.r))]]),(4,.vec 0 (tgN 27 2) [[.v (.slice none 0 0),.v (.slice none 0 0)]]),(5,.vec 0 (tgN 27 2) [[.s 17,.s 600017]]),(17,.vec 0 zNb ((stCs pc sc).map Nb.c)),(600017,.vec 0 zNa E),(1002,.vec 0 zI (yl.map cI))]⟩) ?_ ?_⟩
   .refine A2 [] ?_;simp only[seval,go_sem,↓A0,e6,MF]
   refine A2 [.fold 600017 k 1] ?_;simp only[seval,go_sem,↓A0,e2,e3,e5',ZO,zI,hkp]
  |some j=>
  have hfl:=WA hm
  have hjn:0<=j/\j<(sa.length:Int):=by simpa using hfl
  have hj:=rF hjn
  generalize hsl:(sa.getD j.toNat ⟨[],[]⟩).l=sl at*
  have hkp:(stq sa k (blA pa)).set k ⟨ys,cpL yl sl⟩=stq sa (k+1) (blA pa):=by
   rw[<- hset]
   have:LN sa ⟨ys,yl⟩=⟨ys,cpL yl sl⟩:=by unfold LN;rw[hm];dsimp only;rw[hsl]
   rw[this]
  have e5':=e5 (cpL yl sl)
  rw[hkp]at e5'
  have hcp:=XX yl sl
  have hcs:=fk sl
  simp only[seval,go_sem,↓A0,JU,JV,JW,JX,IR,IU,Ku,g1,e1,e2,e3,e4,e7,w2,hm,hj,isSome_some,isSome_none]
  simp only[zI]at e5'
  refine⟨⟨hil2,rfl⟩,glt2,⟨hil2,rfl⟩,glt2,glt2,hjn,⟨rfl,hyl,(λq h=>by cases h;rfl),hcs⟩,Bn (by kernel_rfl),k+1,glt,(by omega),BU (t:=⟨[(3,true,.one (.p 3 0 0)),(4,true,.one (.p 4 0 0)),(5,true,.one (.p 5 0 0)),(11,true,.one (.d (.mp (mpI (fI (sa.map Na.s)))))),(57,true,.one (.s 600017)),(58,true,.one (.v (.int .i64 ((blA pa).length:Int)))),(59,true,.one (.v (.int .i64 ((k+1:Nat):Int))))],
   [(3,.vec 0 [.v (.bool false),.v (.bool false)] [[.d (.sl Hc (sc.map Nb.r)),.d (.sl Hd (sa.map Na.r))]]),(4,.vec 0 (tgN 27 2) [[.v (.slice none 0 0),.v (.slice none 0 0)]]),(5,.vec 0 (tgN 27 2) [[.s 17,.s 600017]]),(17,.vec 0 zNb ((stCs pc sc).map Nb.c)),(600017,.vec 0 zNa E),(1002,.vec 1 zI ((cpL yl sl).map cI))]⟩) ?_ ?_⟩
  .simp only[length_map]at hcp
   refine A2 [] ?_;simp only[seval,go_sem,↓A0,e6,MF,hcp]
  refine A2 [.fold 600017 k 1] ?_;simp only[seval,go_sem,↓A0,e2,e3,e5',ZO,zI]
 |some x=>
 have hlt:=(List.getElem?_eq_some_iff.1 hx).1
 have h1:=Ah hlt
 have hg:=uc (s:=sc) hx
 obtain⟨xs,xn⟩:=x
 have hs:∀z,((stp sc i (blC pc)).map Nb.c).getD i z=[.v (.string (bs xs)),.v (.int .i64 xn)]:=by intro z;simp[List.getD,hg,Nb.c]
 cases hm:AH (fI (sc.map Nb.s)) xs with
 |none=>
  simp only[seval,go_sem,↓A0,JU,JV,JW,JX,IR,IU,Ku,h1,hs,hm,w1,isSome_some,isSome_none]
  have hil:(i:Int)<((stp sc i (blC pc)).length:Int):=by rw[dn];omega
  have hkp:stp sc (i+1) (blC pc)=stp sc i (blC pc):=by
   rw[<- dq hx]
   have:stN sc ⟨xs,xn⟩=⟨xs,xn⟩:=by unfold stN;rw[hm]
   rw[this];exact RD hg
  refine⟨⟨hil,rfl⟩,(by omega),i+1,hlt,(by omega),?_⟩
  refine A2 [] ?_;simp only[seval,go_sem,↓A0,hkp]
 |some j=>
 have hfl:=WA hm
 have hjn:0<=j/\j<(sc.length:Int):=by simpa using hfl
 have hj:=rE hjn
 simp only[seval,go_sem,↓A0,JU,JV,JW,JX,IR,IU,Ku,h1,hs,hm,hj,w1,isSome_some,isSome_none]
 have hil:(i:Int)<((stp sc i (blC pc)).length:Int):=by rw[dn];omega
 have hxl:i<(stp sc i (blC pc)).length:=by omega
 have hkp:((stp sc i (blC pc)).map Nb.c).set i [.v (.string (bs xs)),.v (.int .i64 (sc.getD j.toNat ⟨[],0⟩).n)]=(stp sc (i+1) (blC pc)).map Nb.c:=by
  rw[<- dq hx]
  have:stN sc ⟨xs,xn⟩=⟨xs,(sc.getD j.toNat ⟨[],0⟩).n⟩:=by unfold stN;rw[hm]
  rw[this,map_set];rfl
 refine⟨⟨hil,rfl⟩,hxl,hjn,⟨hil,rfl⟩,hxl,⟨hxl,(by decide)⟩,Bn (by kernel_rfl),i+1,hlt,(by omega),?_⟩
 refine A2 [] ?_;simp only[seval,go_sem,↓A0,hkp]
end
open Go Go.Sy Go.RowKit
def poA(P:Pg)(a:Va):Bool:=if a.p=true then (if (a.s==[])=true then true else (P.ci a.s).isSome) else true
def poB(P:Pg):List Va->Bool
 |[]=>true
 |a::l=>poA P a&&poB P l
theorem fm(P:Pg)(a:Va)(l:List Va):poB P (a::l)=(poA P a&&poB P l):=rfl
abbrev jq(p:Pg×Ms)(va:List Va):Prop:=va.length<=5000
abbrev Gf(p:Pg×Ms)(va:List Va):SV:=.one (.v (.bool (poB p.1 va)))
abbrev Gg(p:Pg×Ms)(va:List Va):List (Option MV):=[some (mcW p.1 p.2)]
noncomputable abbrev Kv:ArgM ((Pg×Ms)×(List Va)×Unit):=(amP (mMc) (amD (Mr) am0))
abbrev jr:Prop:=C7 Tryz.prog 50 ((Kv).args 0) (Kv).mem (λp:(Pg×Ms)×(List Va)×Unit=>jq p.1 p.2.1) (λp:(Pg×Ms)×(List Va)×Unit=>Gf p.1 p.2.1) (λp:(Pg×Ms)×(List Va)×Unit=>Gg p.1 p.2.1)
section
attribute [local go_sem] Va.r Ae Ad Gw IH II mcC mcW EQ Dz GW GV
theorem nx:jr:=by
 rintro ⟨p,va,_u⟩ w M I lab fz xs hc hA hl hx
 refine Ac Tryz.func50 rfl ((Kv).mem ⟨p,va,_u⟩) w M I lab fz [] [] ((Kv).args 0 ⟨p,va,_u⟩) ((λp:(Pg×Ms)×(List Va)×Unit=>Gg p.1 p.2.1) ⟨p,va,_u⟩) ((λp:(Pg×Ms)×(List Va)×Unit=>Gf p.1 p.2.1) ⟨p,va,_u⟩) xs hA hl hx (λv hv k hk=>by have:=(Kv).an 0 ⟨p,va,_u⟩ v hv k hk;omega) (jN rfl) (jN rfl) ?_
 clear hx hl hA xs
 simp only[Tryz.f50]
 obtain⟨P,m⟩:=p
 dsimp only at hc
 simp only[seval,go_sem]
 refine AC (Y:=Nat) (λi=>i<=va.length/\poB P (va.drop i)=poB P va)
  (λi=>⟨[(0,true,.one (.p 0 0 0)),(9,true,.one (.d (.sl IQ (va.map Va.r)))),(10,true,.one (.v (.int .i64 (va.length:Int)))),(11,true,.one (.v (.int .i64 (i:Int))))],[(0,.vec 0 zMc [mcC P m])]⟩)
  (λi=>va.length-i) 0 ⟨Nat.zero_le _,rfl⟩ ?_ ?_
 .exact N4
 rintro i ⟨hi,hJ⟩
 refine AP [] [] _ _ _ ?_
 have w1:IntKind.i64.wrap ((i:Int)+1)=((i+1:Nat):Int):=by rw[wrap_i64 (by omega) (by omega)];rfl
 cases hx:va[i]? with
 |none=>
  have h2:=List.getElem?_eq_none_iff.1 hx
  have h1:=Ai h2
  have hp:poB P va=true:=by rw[<- hJ,List.drop_eq_nil_of_le h2];rfl
  simp only[seval,go_sem,h1]
  repeat refine AX ?_
  refine A1 [] ?_;simp only[seval,go_sem,bne,Gf,Gg,hp]
 |some a=>
 have hlt:=(List.getElem?_eq_some_iff.1 hx).1
 have h1:=Ah hlt
 have hil:(i:Int)<(va.length:Int):=by omega
 obtain⟨ap,an,az⟩:=a
 have hz:=Ug hx
 dsimp only at hz
 rw[BF hx,fm]at hJ
 have hgo:poA P ⟨ap,an,az⟩=true->poB P (va.drop (i+1))=poB P va:=by intro h;rw[<- hJ,h];rfl
 cases ap with
 |false=>
  exact s4
 |true=>
 cases hs:(az==[]) with
 |true=>
  have hs2:az=[]:=eq_of_beq hs
  subst hs2
  exact s4
 |false=>
 cases hci:P.ci az with
 |none=>
  have hp:poB P va=false:=by
   rw[<- hJ]
   have:poA P ⟨true,an,az⟩=false:=by unfold poA;simp only[hs,hci];rfl
   rw[this];rfl
  simp only[seval,go_sem,CP,CQ,CR,CS,Va.c,isSome_some,isSome_none,h1,hz,w1,hs,hci,bne]
  repeat refine AX ?_
  refine A1 [] ?_;simp only[seval,go_sem,bne,Gf,Gg,hp]
 |some j=>
 have hJ2:=hgo (by unfold poA;simp only[hs,hci];rfl)
 simp only[seval,go_sem,CP,CQ,CR,CS,Va.c,isSome_some,isSome_none,h1,hz,w1,hs,hci,bne]
 repeat refine AX ?_
 refine⟨i+1,⟨hlt,hJ2⟩,by omega,A2 [] ?_⟩
 simp only[seval,go_sem]
noncomputable def JY{X:Ctx}{w0:World}:Sy.Spec Tryz.prog X w0:=D0 50 Tryz.call50 (Kv) _ _ _ KF1 KF0 KF9 nx
end
open Go Go.Sy Go.RowKit
def QY:Option Code->Array Oper
 |some (.seq (.region _ o _) _)=>o
 |_=>#[]
def Tn:Option Code->Code
 |some (.seq _ c)=>c
 |_=>.skip
def OL(m:Ms):Ms:=if (m.e==0)=true then m.exh else m
abbrev pnM(P:Pg)(m:Ms):List (Nat×List C×List (List C)):=[(3,[.v (.bool false)],[[.p 0 0 0]]),(0,zMc,[mcC P m])]
abbrev stM:St:=⟨[(0,true,.one (.p 3 0 0)),(2,true,.one (.v (.bool true)))],[]⟩
noncomputable abbrev Uk:Option Code:=Tryz.f48.body
theorem dt{X:Ctx}{w0:World}(hpn:X.pn=none)(hdf:X.dfs=[]){u u':FrameMode}{v:Value}{b:Bool}(x0:Value)(w:World)
  (hrec:∀(c₀:Frame) (cs:List Frame),c₀.mode=u->(match recoverD (c₀::cs) with|some (v,cs')=>(v,cs')|none=>(.nilIface,c₀::cs))=(v,{ c₀ with mode:=u' }::cs))
  (hb:(v= .nilIface/\b=false)∨∃t y,v= .iface t y/\b=true) (st:St)
  (hst:∀a:Act,a.tmps.size=15->a.tmps[0]?=some x0->a.tmps[2]?=some (.bool b)->a.defers=[]->Holds X w0 15 st a w) (Qf:St->Prop)
  (hv:K3 (P:=Tryz.prog) (X:=X) (w0:=w0) [] 15 (QY Uk) ((QY Uk).toList.drop 2) st [] ZX (λs=>vc (P:=Tryz.prog) X w0 [] 15 [] (Tn Uk) s (λe s'=>e= .normal/\Qf s'))) :
  CallsD Tryz.prog 48 #[x0] u w λe u'' w'=>e= .returned (.tuple #[])/\u''=u'/\∃s' a',Qf s'/\Holds X w0 15 s' a' w':=by
 refine callsD_of_wpS Tryz.func48 rfl λc₀ cs hu=>?_
 obtain⟨T,hT⟩:∃T:Array Value,T = #[x0]++Array.replicate (Tryz.f48.ntmps-(#[x0]:Array Value).size) undef:=⟨_,rfl⟩
 rw[<- hT]
 have hsz:T.size=15:=by rw[hT];simp[Tryz.ntmps48]
 have t0:T[0]?=some x0:=by rw[hT];simp
 clear hT
 refine wpS_seq (kY (v:=v) (cs':={ c₀ with mode:=u' }::cs) rfl rfl rfl (hrec c₀ cs hu) ?_)
 change wpOps _ _ _ (List.range' 1 (8+1)) _ _
 refine vO (v:=.bool b) rfl rfl ?_ ?_
 .rcases hb with⟨rfl,rfl⟩|⟨t,y,rfl,rfl⟩<;>simp[execOp,go_sem,Act.eval,Act.put,hsz]
 .refine nL (X:=X) (w0:=w0) (n:=15) (l:=(QY Uk).toList.drop 2) (st:=st) [] ?_ ?_ ?_ hv ?_
  .rintro ch a w _ ⟨_,_,_,_,_,_,hp⟩
   rw[hpn]at hp;exact hp.elim
  .intro s' a1 w1 hvc hh
   show Code.wpS _ _ _ _ _ _
   refine wpS_of_wp (Code.wp_mono ?_ (AP (P:=Tryz.prog) [] [] _ _ _ hvc a1 w1 hh))
   rintro e a' w' (⟨s',⟨rfl,hq⟩,hh'⟩|⟨ch,_,_,_,_,_,_,_,_,hp⟩)
   .exact⟨by rw[hh'.defers,hdf],_,rfl,.tuple #[],by simp[results,Tryz.results48,go_sem],rfl,rfl,s',a',hq,hh'⟩
   .rw[hpn]at hp;exact hp.elim
  .intro j
   simp only[List.getElem?_drop,Array.getElem?_toList]
   rfl
  .refine hst _ ?_ ?_ ?_ rfl
   .simp[Act.put,hsz]
   .simp[Act.put,t0]
   .simp[Act.put,hsz]
attribute [local go_sem] Gw IH II mcC mcW EQ Dz GW GV
theorem ny{X:Ctx}{w0:World}{I:Nm}{lab:Lab}{fz:Nat->Prop}{w:World}{h:List (Nat×Ch)}(hA:AtW X w0 I lab fz (lkp h) w)(x0:Value):
  CallsD Tryz.prog 48 #[x0] .returning w λe u' w'=>e= .returned (.tuple #[])/\u'= .returning/\∃I' lab' fz',AtW X w0 I' lab' fz' (lkp h) w':=by
 refine CallsD.mono (dt (X:=⟨X.M,X.Z,X.F,none,[],[]⟩) (w0:=w0) rfl rfl (u':=.returning) (v:=.nilIface) (b:=false) x0 w ?_ (.inl ⟨rfl,rfl⟩) ⟨[(2,true,.one (.v (.bool false)))],h⟩ ?_ (λs'=>s'.h=h) ?_) ?_
 .rintro ⟨⟩ cs hu
  simp only at hu
  subst hu
  simp[recoverD]
 .intro a a1 a2 a3 a4
  refine⟨?_,I,lab,fz,a1,⟨a4,λp hp=>by cases hp⟩,?_,⟨hA.h,hA.wf,hA.own,hA.fzl,hA.fzo,hA.kept,hA.fix⟩⟩
  .intro j g v hj _ k hk
   simp only[lkp]at hj
   split at hj
   .simp only[jS,jP]at hj
    obtain⟨_,rfl⟩:=hj
    cases hk
   .cases hj
  .intro j g v hj
   simp only[lkp]at hj
   split at hj
   .rename_i e
    subst e
    simp only[jS,jP]at hj
    obtain⟨rfl,rfl⟩:=hj
    exact⟨_,a3,rfl,.v _ _ rfl⟩
   .cases hj
 .simp only[Uk,Tryz.f48,QY,Tn,List.drop_succ_cons,drop_zero]
  simp only[seval,go_sem]
 .rintro e u' w' ⟨rfl,rfl,s',a',hq,_,I',lab',fz',hh⟩
  refine⟨rfl,rfl,I',lab',fz',?_⟩
  rw[<- hq]
  exact⟨hh.m.h,hh.m.wf,hh.m.own,hh.m.fzl,hh.m.fzo,hh.m.kept,hh.m.fix⟩
theorem js{X:Ctx}{w0:World}{I:Nm}{lab:Lab}{fz:Nat->Prop}{w:World}(P:Pg)(m:Ms)(hA:AtW X w0 I lab fz (lkp (pnH (pnM P m))) w)(hF:∀q∈X.F,q.1∈[0,3])(t:TypeId)(y:Value):
  CallsD Tryz.prog 48 #[(I 3).p 0 0] (.panicking [{ v:=.iface t y,recovered:=false }]) w λe u' w'=>e= .returned (.tuple #[])/\u'= .panicking [{ v:=.iface t y,recovered:=true }]/\
   ∃I' lab' fz',AtW X w0 I' lab' fz' (lkp [(0,.vec 0 zMc [mcC P (OL m)]),(3,.dead)]) w':=by
 refine CallsD.mono (dt (X:=⟨X.M,X.Z,X.F,none,[],[]⟩) (w0:=w0) rfl rfl (u':=.panicking [{ v:=.iface t y,recovered:=true }]) (v:=.iface t y) (b:=true) ((I 3).p 0 0) w ?_ (.inr ⟨t,y,rfl,rfl⟩) ⟨stM.e,pnH (pnM P m)⟩ ?_
  (λs'=>∀q∈[(0,Ch.vec 0 zMc [mcC P (OL m)]),(3,.dead)],KR (lkp s'.h q.1) q.2/\Kk [(0,Ch.vec 0 zMc [mcC P (OL m)]),(3,.dead)] (chNames q.2)) ?_) ?_
 .intro c₀ cs hu
  simp[recoverD,hu]
 .intro a a1 a2 a3 a4
  refine⟨?_,I,lab,fz,a1,⟨a4,λp hp=>by cases hp⟩,?_,⟨hA.h,hA.wf,hA.own,hA.fzl,hA.fzo,hA.kept,hA.fix⟩⟩
  .intro j g v hj _ k hk
   simp only[stM,lkp]at hj
   repeat' split at hj
   all_goals first
    |cases hj;done
    |(
     simp only[jS,jP]at hj
     obtain⟨_,rfl⟩:=hj
     first
      |cases hk;done
      |(
       simp only[SV.names,C.names,List.mem_singleton]at hk
       subst hk
       exact RN (by simp)))
  .intro j g v hj
   simp only[stM,lkp]at hj
   repeat' split at hj
   all_goals first
    |cases hj;done
    |(
     rename_i e
     subst e
     simp only[jS,jP]at hj
     obtain⟨rfl,rfl⟩:=hj
     first
      |exact⟨_,a2,rfl,.p _ _ _ _⟩
      |exact⟨_,a3,rfl,.v _ _ rfl⟩)
 .obtain⟨fu,dp,cs,ar,e0,v0,f0,al0,k0⟩:=m
  cases he:(e0==0) with
  |false=>
   have hc:OL ⟨fu,dp,cs,ar,e0,v0,f0,al0,k0⟩=⟨fu,dp,cs,ar,e0,v0,f0,al0,k0⟩:=if_neg (by show ¬(e0==0)=true;rw[he];decide)
   exact AAx
  |true=>
   have hc:OL ⟨fu,dp,cs,ar,e0,v0,f0,al0,k0⟩=⟨fu,dp,cs,ar,2,0,[],0,0⟩:=if_pos he
   exact AAx
 .rintro e u' w' ⟨rfl,rfl,s',a',hq,_,I',lab',fz',hh⟩
  refine⟨rfl,rfl,I',lab',fz',?_⟩
  have h1:=Qo (X:=⟨X.M,X.Z,X.F,none,[],[]⟩) hh.m hq (λq hq=>by have:=hF q hq;simpa using this)
  exact⟨h1.h,h1.wf,h1.own,h1.fzl,h1.fzo,h1.kept,h1.fix⟩
end Go.Proofs.YtapedeoheilnnaaGreat
