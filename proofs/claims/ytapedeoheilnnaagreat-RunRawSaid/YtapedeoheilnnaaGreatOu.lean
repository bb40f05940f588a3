/- Light states; states and outcomes held against themselves, walked. Conditions: lengths; both are the same. -/
import Derived.Test.YtapedeoheilnnaaGreatRml
import Derived.Test.YtapedeoheilnnaaGreatGq
set_option linter.all false
set_option maxRecDepth 100000
set_option maxHeartbeats 8000000
namespace Go.Proofs.YtapedeoheilnnaaGreat
open Go Go.Sy Go.RowKit
variable{P:Pg}{l:List Int}
structure Ou where
 e:Int
 v:Int
 f:List UInt8
 al:Int
 k:Int
 s:Sta
def Ou.c(x:Ou):List C:=[.v (.int .i64 x.e),.v (.int .i64 x.v),.v (.string (bs x.f)),.v (.int .i64 x.al),.v (.int .i64 x.k),.d (.sl HY (x.s.cs.map Nb.r)),.d (.sl HZ (x.s.ar.map Na.r))]
theorem A3k(v:SV)(a b:Ou)(h:leV v (.agg a.c))(h':leV v (.agg b.c)):a=b:=by
 cases v with
 |one c=>exact h.elim
 |tup l=>exact h.elim
 |agg l=>
 obtain⟨e,v,f,al,k,cs,ar⟩:=a
 obtain⟨e',v',f',al',k',cs',ar'⟩:=b
 match l,h,h' with
 |[c0,c1,c2,c3,c4,c5,c6],⟨h0,h1,h2,h3,h4,h5,h6,_⟩,⟨g0,g1,g2,g3,g4,g5,g6,_⟩=>
  have e0:=M1 h0 g0
  have e1:=M1 h1 g1
  have e2:=M1 h2 g2
  have e3:=M1 h3 g3
  have e4:=M1 h4 g4
  simp only[Value.string.injEq,Value.int.injEq,true_and]at e0 e1 e2 e3 e4
  have k2:=bs_inj e2
  have k5:=Ac XF (G7 h5 g5)
  have k6:=Ac XG (G7 h6 g6)
  subst e0;subst e1;subst k2;subst e3;subst e4;subst k5;subst k6;rfl
noncomputable def cOu:Cod Ou:=Hh (λx=>.agg x.c) A3k (λx=>rfl)
theorem qI(x:Ou):cOu.e x= .agg x.c:=rfl
theorem qJ(e v al k:Int)(f:List UInt8)(cs:List Nb)(ar:List Na):cOu.d (.agg [.v (.int .i64 e),.v (.int .i64 v),.v (.string (bs f)),.v (.int .i64 al),.v (.int .i64 k),.d (.sl HY (cs.map Nb.r)),.d (.sl HZ (ar.map Na.r))])=some ⟨e,v,f,al,k,⟨cs,ar⟩⟩:=ED (e:=λx:Ou=>.agg x.c) (a:=⟨e,v,f,al,k,⟨cs,ar⟩⟩) (FA _)
def lsB(s:Sta):Bool:=!decide (5<(s.cs.length:Int))&&!decide (5<(s.ar.length:Int))&&s.ar.all λx=>!decide (12<(x.l.length:Int))
abbrev iJ(s:Sta):Prop:=True
abbrev JA(s:Sta):SV:=.one (.v (.bool (lsB s)))
noncomputable abbrev S5:ArgC ((Sta)×Unit):=(acS (cSta) ac0)
abbrev iK:Prop:=Cu Tryz.prog 8 S5 (λp:(Sta)×Unit=>iJ p.1) (λp:(Sta)×Unit=>JA p.1)
attribute [local go_sem] Na.r Nb.r Ou.c qJ qI O8 O7 stR
theorem mR:iK:=by
 rintro ⟨s,_u⟩ w fz xs hc hfz hl hx
 refine Bu Tryz.func8 rfl w fz [] [] S5 (λp:(Sta)×Unit=>JA p.1) _ xs hfz hl hx (jN rfl) ?_
 clear hx hl hfz xs
 simp only[Tryz.f8]
 obtain⟨sc,sa⟩:=s
 cases h1:decide (5<(sc.length:Int)) with
 |true=>
  have hr:lsB ⟨sc,sa⟩=false:=by unfold lsB;dsimp only;rw[h1];rfl
  cases h2:decide (5<(sa.length:Int))<;>
  (
   simp only[seval,go_sem,iD,h1,h2]
   refine A1 [] ?_;simp only[seval,go_sem,bne,JA,hr])
 |false=>
 cases h2:decide (5<(sa.length:Int)) with
 |true=>
  have hr:lsB ⟨sc,sa⟩=false:=by unfold lsB;dsimp only;rw[h1,h2];rfl
  simp only[seval,go_sem,iD,h1,h2]
  refine A1 [] ?_;simp only[seval,go_sem,bne,JA,hr]
 |false=>
 have hl:sa.length<=5:=by have:=of_decide_eq_false h2;omega
 have hr:lsB ⟨sc,sa⟩=sa.all λx=>!decide (12<(x.l.length:Int)):=by unfold lsB;dsimp only;rw[h1,h2];rfl
 simp only[seval,go_sem,iD,h1,h2]
 refine AK (Y:=Nat) (λi=>i<=sa.length/\lsB ⟨sc,sa⟩=(sa.drop i).all λx=>!decide (12<(x.l.length:Int)))
  (λi=>⟨[(1,true,.one (.p 1 0 0)),(3,true,.one (.v (.int .i64 (i:Int))))],[(1,.vec 0 [.v (.bool false),.v (.bool false)] [[.d (.sl HY (sc.map Nb.r)),.d (.sl HZ (sa.map Na.r))]])]⟩)
  (λi=>sa.length-i) 0 ⟨Nat.zero_le _,hr⟩ ?_ ?_
 .refine A4 [] ?_;simp only[seval,go_sem,iD]
 rintro i ⟨hi,hJ⟩
 refine AZ [] [] _ _ _ ?_
 have w1:IntKind.i64.wrap ((i:Int)+1)=((i+1:Nat):Int):=by rw[wrap_i64 (by omega) (by omega)];rfl
 cases hx:sa[i]? with
 |none=>
  have g2:=List.getElem?_eq_none_iff.1 hx
  have g1:=B9 g2
  have hr2:lsB ⟨sc,sa⟩=true:=by rw[hJ,List.drop_eq_nil_of_le g2];rfl
  simp only[seval,go_sem,iD,g1]
  refine A1 [] ?_;simp only[seval,go_sem,bne,JA,hr2]
 |some x=>
 have hlt:=(List.getElem?_eq_some_iff.1 hx).1
 have g1:=B8 hlt
 have hil:(i:Int)<(sa.length:Int):=by omega
 have hz:=Zt hx
 rw[BJ hx,List.all_cons]at hJ
 obtain⟨xs,xl⟩:=x
 dsimp only at hJ
 cases h3:decide (12<(xl.length:Int)) with
 |true=>
  have hr2:lsB ⟨sc,sa⟩=false:=by rw[hJ,h3];rfl
  simp only[seval,go_sem,iD,g1,hz,h3]
  refine⟨hil,?_⟩
  refine A1 [] ?_;simp only[seval,go_sem,bne,JA,hr2]
 |false=>
 rw[h3]at hJ
 simp only[seval,go_sem,iD,g1,hz,h3,w1]
 refine⟨hil,i+1,⟨hlt,hJ⟩,(by omega),?_⟩
 refine A4 [] ?_;simp only[seval,go_sem,iD]
noncomputable def YG{X:Ctx}{w0:World}:Sy.Spec Tryz.prog X w0:=E2 8 Tryz.call8 S5 _ _ KF4 mR
abbrev iL(a:Sta)(b:Sta):Prop:=a=b/\a.cs.length<=1000000/\a.ar.length<=1000000/\∀x∈a.ar,x.l.length<=1000000000
abbrev MI(a:Sta)(b:Sta):SV:=.one (.v (.bool true))
noncomputable abbrev S6:ArgC ((Sta)×(Sta)×Unit):=(acS (cSta) (acS (cSta) ac0))
abbrev iM:Prop:=Cu Tryz.prog 16 S6 (λp:(Sta)×(Sta)×Unit=>iL p.1 p.2.1) (λp:(Sta)×(Sta)×Unit=>MI p.1 p.2.1)
theorem mS:iM:=by
 rintro ⟨a,b,_u⟩ w fz xs hc hfz hl hx
 refine Bu Tryz.func16 rfl w fz [] [] S6 (λp:(Sta)×(Sta)×Unit=>MI p.1 p.2.1) _ xs hfz hl hx (jN rfl) ?_
 clear hx hl hfz xs
 simp only[Tryz.f16]
 dsimp only at hc
 obtain⟨h0,h1,h2,h3⟩:=hc
 subst h0
 obtain⟨sc,sa⟩:=a
 dsimp only at h1 h2 h3
 simp only[seval,go_sem,iD,bne_self_eq_false,beq_self_eq_true]
 refine AK (Y:=Nat) (λi=>i<=sc.length)
  (λi=>⟨[(2,true,.one (.p 2 0 0)),(3,true,.one (.p 3 0 0)),(5,true,.one (.v (.int .i64 (i:Int))))],[(2,.vec 0 [.v (.bool false),.v (.bool false)] [[.d (.sl HY (sc.map Nb.r)),.d (.sl HZ (sa.map Na.r))]]),(3,.vec 0 [.v (.bool false),.v (.bool false)] [[.d (.sl HY (sc.map Nb.r)),.d (.sl HZ (sa.map Na.r))]])]⟩)
  (λi=>sc.length-i) 0 (Nat.zero_le _) ?_ ?_
 .refine A4 [] ?_;simp only[seval,go_sem,iD]
 rintro i hi
 refine AZ [] [] _ _ _ ?_
 have w1:IntKind.i64.wrap ((i:Int)+1)=((i+1:Nat):Int):=by rw[wrap_i64 (by omega) (by omega)];rfl
 cases hx:sc[i]? with
 |some x=>
  have hlt:=(List.getElem?_eq_some_iff.1 hx).1
  have g1:=B8 hlt
  have hil:(i:Int)<(sc.length:Int):=by omega
  have hz:=jY hx
  simp only[seval,go_sem,iD,g1,hz,w1,bne_self_eq_false,beq_self_eq_true]
  refine⟨hil,hil,CH (by kernel_rfl),i+1,hlt,(by omega),?_⟩
  refine A4 [] ?_;simp only[seval,go_sem,iD]
 |none=>
 have g2:=List.getElem?_eq_none_iff.1 hx
 have g1:=B9 g2
 simp only[seval,go_sem,iD,g1]
 refine AK (Y:=Nat) (λi=>i<=sa.length)
  (λi=>⟨[(2,true,.one (.p 2 0 0)),(3,true,.one (.p 3 0 0)),(6,true,.one (.v (.int .i64 (i:Int))))],[(2,.vec 0 [.v (.bool false),.v (.bool false)] [[.d (.sl HY (sc.map Nb.r)),.d (.sl HZ (sa.map Na.r))]]),(3,.vec 0 [.v (.bool false),.v (.bool false)] [[.d (.sl HY (sc.map Nb.r)),.d (.sl HZ (sa.map Na.r))]])]⟩)
  (λi=>sa.length-i) 0 (Nat.zero_le _) ?_ ?_
 .refine A4 [] ?_;simp only[seval,go_sem,iD]
 rintro j hj
 refine AZ [] [] _ _ _ ?_
 have w2:IntKind.i64.wrap ((j:Int)+1)=((j+1:Nat):Int):=by rw[wrap_i64 (by omega) (by omega)];rfl
 cases hy:sa[j]? with
 |none=>
  have k2:=List.getElem?_eq_none_iff.1 hy
  have k1:=B9 k2
  simp only[seval,go_sem,iD,k1]
  refine A1 [] ?_;simp only[seval,go_sem,bne,MI]
 |some y=>
 have hlt:=(List.getElem?_eq_some_iff.1 hy).1
 have k1:=B8 hlt
 have hjl:(j:Int)<(sa.length:Int):=by omega
 have hz:=Zt hy
 have hyl:=h3 y (List.mem_of_getElem? hy)
 obtain⟨ys,yl⟩:=y
 dsimp only at hyl
 simp only[seval,go_sem,iD,k1,hz,bne_self_eq_false,beq_self_eq_true]
 refine⟨hjl,hjl,hjl,hjl,CH (by kernel_rfl),?_⟩
 refine AK (Y:=Nat) (λk=>k<=yl.length)
  (λk=>⟨[(2,true,.one (.p 2 0 0)),(3,true,.one (.p 3 0 0)),(6,true,.one (.v (.int .i64 (j:Int)))),(7,true,.one (.v (.int .i64 (k:Int))))],[(2,.vec 0 [.v (.bool false),.v (.bool false)] [[.d (.sl HY (sc.map Nb.r)),.d (.sl HZ (sa.map Na.r))]]),(3,.vec 0 [.v (.bool false),.v (.bool false)] [[.d (.sl HY (sc.map Nb.r)),.d (.sl HZ (sa.map Na.r))]])]⟩)
  (λk=>yl.length-k) 0 (Nat.zero_le _) ?_ ?_
 .refine A4 [] ?_;simp only[seval,go_sem,iD]
 rintro k hk
 refine AZ [] [] _ _ _ ?_
 have w3:IntKind.i64.wrap ((k:Int)+1)=((k+1:Nat):Int):=by rw[wrap_i64 (by omega) (by omega)];rfl
 cases hq:yl[k]? with
 |none=>
  have q2:=List.getElem?_eq_none_iff.1 hq
  have q1:=B9 q2
  simp only[seval,go_sem,iD,hz,q1,w2]
  refine⟨hjl,j+1,hlt,(by omega),?_⟩
  refine A4 [] ?_;simp only[seval,go_sem,iD]
 |some q=>
 have hqlt:=(List.getElem?_eq_some_iff.1 hq).1
 have q1:=B8 hqlt
 have hkl:(k:Int)<(yl.length:Int):=by omega
 have hzq:=A4H hq
 simp only[seval,go_sem,iD,hz,hzq,q1,w3,bne_self_eq_false]
 refine⟨hjl,hjl,hkl,hjl,hkl,CH (by kernel_rfl),k+1,hqlt,(by omega),?_⟩
 refine A4 [] ?_;simp only[seval,go_sem,iD]
noncomputable def S7{X:Ctx}{w0:World}:Sy.Spec Tryz.prog X w0:=E2 16 Tryz.call16 S6 _ _ KF4 mS
abbrev ep(a:Ou)(b:Ou):Prop:=a=b/\a.s.cs.length<=1000000/\a.s.ar.length<=1000000/\∀x∈a.s.ar,x.l.length<=1000000000
abbrev Mr(a:Ou)(b:Ou):SV:=.one (.v (.bool true))
noncomputable abbrev Qn:ArgC ((Ou)×(Ou)×Unit):=(acS (cOu) (acS (cOu) ac0))
abbrev er:Prop:=Cu Tryz.prog 13 Qn (λp:(Ou)×(Ou)×Unit=>ep p.1 p.2.1) (λp:(Ou)×(Ou)×Unit=>Mr p.1 p.2.1)
theorem iN:er:=by
 rintro ⟨a,b,_u⟩ w fz xs hc hfz hl hx
 refine Bu Tryz.func13 rfl w fz [S7] [] Qn (λp:(Ou)×(Ou)×Unit=>Mr p.1 p.2.1) _ xs hfz hl hx (jN rfl) ?_
 clear hx hl hfz xs
 simp only[Tryz.f13]
 dsimp only at hc
 obtain⟨h0,h1,h2,h3⟩:=hc
 subst h0
 obtain⟨e,v,f,al,k,sc,sa⟩:=a
 dsimp only at h1 h2 h3
 simp only[seval,go_sem,S7,iD,bne_self_eq_false,beq_self_eq_true]
 refine⟨⟨rfl,h1,h2,h3⟩,?_⟩
 refine A1 [] ?_;simp only[seval,go_sem,bne,Mr,MI]
noncomputable def VG{X:Ctx}{w0:World}:Sy.Spec Tryz.prog X w0:=E2 13 Tryz.call13 Qn _ _ KF4 iN
theorem Bm{α:Type}(v:α)(s t:List UInt8):∀es:List (List UInt8×α),AD (B1 es s v) t=if (s==t)=true then some v else AD es t
 |[]=>by simp only[B1,AD]
 |(k,x)::r=>by
  simp only[B1]
  split
  .rename_i h
   have e:=eq_of_beq h
   subst e
   simp only[AD]
   split<;>rfl
  rename_i h
  simp only[AD,Bm v s t r]
  by_cases h1:(k==t)=true
  .rw[if_pos h1]
   have h2:¬(s==t)=true:=by
    intro h2
    exact h (by rw[eq_of_beq h2];exact h1)
   rw[if_neg h2,if_pos h1]
  rw[if_neg h1,if_neg h1]
def idx(s:List UInt8):List (List UInt8)->Option Nat
 |[]=>none
 |x::r=>if (x==s)=true then some 0 else (idx s r).map (·+1)
theorem cb(s:List UInt8):∀(l:List (List UInt8)) (i:Nat) (es:List (List UInt8×Int)),AD (GP l i es) s=match AD es s with
  |some v=>some v
  |none=>(idx s l).map λj=>((j+i:Nat):Int)
 |[],i,es=>by simp only[GP,idx,Option.map_none];cases AD es s<;>rfl
 |x::r,i,es=>by
  simp only[GP,cb s r (i+1),idx]
  cases hx:(AD es x).isSome with
  |true=>
   rw[if_pos rfl]
   cases hs:AD es s with
   |some v=>rfl
   |none=>
   have:¬(x==s)=true:=by
    intro h
    rw[eq_of_beq h,hs]at hx;cases hx
   rw[if_neg this]
   cases idx s r with
   |none=>rfl
   |some j=>simp only[Option.map_some];congr 2;omega
  |false=>
  rw[if_neg (by decide),Bm]
  by_cases h:(x==s)=true
  .have e:=eq_of_beq h
   subst e
   rw[if_pos h,if_pos h]
   cases hs:AD es x with
   |some v=>rw[hs]at hx;cases hx
   |none=>simp
  rw[if_neg h,if_neg h]
  cases AD es s with
  |some v=>rfl
  |none=>
  cases idx s r with
  |none=>rfl
  |some j=>simp only[Option.map_some];congr 2;omega
theorem S8(s:List UInt8)(l:List (List UInt8)):AD (fI l) s=(idx s l).map Int.ofNat:=by
 unfold fI
 rw[cb]
 cases idx s l<;>rfl
def lkN(s:List UInt8):List Nb->Int
 |[]=>0
 |x::r=>if (x.s==s)=true then x.n else lkN s r
def lkA(s:List UInt8)(d:List Int):List Na->List Int
 |[]=>d
 |x::r=>if (x.s==s)=true then cpL d x.l else lkA s d r
theorem cf(s:List UInt8):∀l:List Nb,lkN s l=match idx s (l.map Nb.s) with
  |some j=>(l.getD j ⟨[],0⟩).n
  |none=>0
 |[]=>rfl
 |x::r=>by
  simp only[lkN,List.map_cons,idx]
  by_cases h:(x.s==s)=true
  .rw[if_pos h,if_pos h];rfl
  rw[if_neg h,if_neg h,cf s r]
  cases idx s (r.map Nb.s)<;>rfl
theorem cg(s:List UInt8)(d:List Int):∀l:List Na,lkA s d l=match idx s (l.map Na.s) with
  |some j=>cpL d (l.getD j ⟨[],[]⟩).l
  |none=>d
 |[]=>rfl
 |x::r=>by
  simp only[lkA,List.map_cons,idx]
  by_cases h:(x.s==s)=true
  .rw[if_pos h,if_pos h];rfl
  rw[if_neg h,if_neg h,cg s d r]
  cases idx s (r.map Na.s)<;>rfl
theorem yB(l:List Nb)(s:List UInt8):stN l ⟨s,0⟩=⟨s,lkN s l⟩:=by
 unfold stN
 dsimp only
 rw[S8,cf]
 cases idx s (l.map Nb.s) with
 |none=>rfl
 |some j=>rfl
theorem si(l:List Na)(s:List UInt8)(d:List Int):LG l ⟨s,d⟩=⟨s,lkA s d l⟩:=by
 unfold LG
 dsimp only
 rw[S8,cg]
 cases idx s (l.map Na.s) with
 |none=>rfl
 |some j=>rfl
theorem yC{p:List (List UInt8)}{s:List Nb}{i:Nat}{x:List UInt8}(h:p[i]?=some x):(stCs (p.take (i+1)) s).map Nb.c=(stCs (p.take i) s).map Nb.c++[[.v (.string (bs x)),.v (.int .i64 (lkN x s))]]:=by
 rw[List.take_add_one,h]
 simp[stCs,blC,yB,Nb.c]
theorem A3l{p:List Gy}{s:List Na}{i:Nat}{x:Gy}(h:p[i]?=some x):(stA (p.take (i+1)) s).map Na.c=(stA (p.take i) s).map Na.c++[[.v (.string (bs x.s)),.ov zI ((lkA x.s (List.replicate x.n.toNat 0) s).map cI)]]:=by
 rw[List.take_add_one,h]
 simp[stA,blA,si,Na.c]
theorem Qo(p:List (List UInt8))(s:List Nb):(stCs p s).length=p.length:=by simp[stCs,blC]
theorem ZV(p:List Gy)(s:List Na):(stA p s).length=p.length:=by simp[stA,blA]
abbrev Qp(sc:List Nb)(sa:List Na):Ch:=.vec 0 [.v (.bool false),.v (.bool false)] [[.d (.sl HY (sc.map Nb.r)),.d (.sl HZ (sa.map Na.r))]]
theorem qK(k t:Nat)(l:List Int):(l.map cI).map (λr=>r.map (mvC k t))=l.map cI:=HP cI (λ_=>rfl) l
abbrev A7Q:List C:=tgN 69 2
abbrev yD:List C:=tgN 72 2
open Go Go.Sy Go.RowKit Go.ChangeShapes Go.WideShapes Go.ChangeAt
section
variable {H:Type}{enc:TypeId×Value->H}{W:World}
theorem mU(fuel:Nat):HV enc Tryz.prog W 23 fuel (λl:List Int=>[.sl zIw (l.map iD)]) (λl=>l.length<=maxLen/\∀x∈l,nZ x):=by
 cases fuel with
 |zero=>exact GT
 |succ n=>exact J8 id _ _ (Jh Tryz.underlying23 zIw (by kernel_rfl) (by decide) (Qk Tryz.underlying2)) (λ_=>rfl) (λ_ h=>⟨h.1,λx hx=>uQ (h.2 x hx)⟩)
theorem yE(fuel:Nat):HV enc Tryz.prog W 69 fuel Nb.r (λ_=>True):=by
 cases fuel with
 |zero=>exact GT
 |succ n=>
 exact J8 (λp:List UInt8×Int×Unit=>(⟨p.1,p.2.1⟩:Nb)) _ _ (M6 Tryz.underlying69 (n:=2) (by kernel_rfl)
  (H6 (m:=1) (n:=1) rfl (by kernel_rfl) (UF Tryz.underlying9) (H6 (m:=1) (n:=0) rfl (by kernel_rfl) (Qk Tryz.underlying2) (Ql _)))) (λ_=>rfl) (λp hp=>trivial)
theorem yF(fuel:Nat):HV enc Tryz.prog W 72 fuel Na.r (λx=>x.l.length<=maxLen):=by
 cases fuel with
 |zero=>exact GT
 |succ n=>
 exact J8 (λp:List UInt8×List Int×Unit=>(⟨p.1,p.2.1⟩:Na)) _ _ (M6 Tryz.underlying72 (n:=2) (by kernel_rfl)
  (H6 (m:=1) (n:=1) rfl (by kernel_rfl) (UF Tryz.underlying9) (H6 (m:=1) (n:=0) rfl (by kernel_rfl) (mU n) (Ql _)))) (λ_=>rfl) (λp hp=>hp.2.1.1)
theorem sj(fuel:Nat):HV enc Tryz.prog W 24 fuel (λl:List Nb=>[.sl HY (l.map Nb.r)]) (λl=>l.length<=maxLen):=by
 cases fuel with
 |zero=>exact GT
 |succ n=>exact J8 id _ _ (Jh Tryz.underlying24 HY (by kernel_rfl) (by decide) (yE n)) (λ_=>rfl) (λ_ h=>h.1)
theorem sk(fuel:Nat):HV enc Tryz.prog W 25 fuel (λl:List Na=>[.sl HZ (l.map Na.r)]) (λl=>l.length<=maxLen/\∀x∈l,x.l.length<=maxLen):=by
 cases fuel with
 |zero=>exact GT
 |succ n=>exact Jh Tryz.underlying25 HZ (by kernel_rfl) (by decide) (yF n)
def A7R(s:Sta):List D:=[.sl HY (s.cs.map Nb.r),.sl HZ (s.ar.map Na.r)]
theorem sn(fuel:Nat):HV enc Tryz.prog W 27 fuel A7R (λs=>s.cs.length<=maxLen/\s.ar.length<=maxLen/\∀x∈s.ar,x.l.length<=maxLen):=by
 cases fuel with
 |zero=>exact GT
 |succ n=>
 exact J8 (λp:List Nb×List Na×Unit=>(⟨p.1,p.2.1⟩:Sta)) _ _ (M6 Tryz.underlying27 (n:=2) (by kernel_rfl)
  (H6 (m:=1) (n:=1) rfl (by kernel_rfl) (sj n) (H6 (m:=1) (n:=0) rfl (by kernel_rfl) (sk n) (Ql _)))) (λ_=>rfl) (λp hp=>⟨hp.1,hp.2.1.1,hp.2.1.2⟩)
variable {base:Nat}{v:Value}{d:DataW H}{p:List MemPlace}
theorem mV(hv:Value.okWide Tryz.prog W .any base 27 v)(h:DataW.Trod enc Tryz.prog W 0 (λ_=>true) true 27 v d p):
  ∃s:Sta,(s.cs.length<=maxLen/\s.ar.length<=maxLen/\∀x∈s.ar,x.l.length<=maxLen)/\CD (hp W) (λb=>b<W.heap.size) (.agg (stR s)) v:=
 mQ (eh Tryz.underlying27 hv) h sn
end
open Go Go.Sy Go.RowKit Go.ChangeShapes Go.WideShapes Go.ChangeAt
open Go Go.Sy Go.RowKit
def K1:List C:=[.v (.bool false),.v (.int .i64 0),.v (.string (bs []))]
theorem K5(l:List Va):List.flatMap (λr=>List.flatMap C.names r) (l.map Va.c)=[]:=List.flatMap_eq_nil_iff.2 λp hp=>by
 obtain⟨a,_,rfl⟩:=List.mem_map.1 hp
 rfl
theorem eu(k t:Nat)(l:List Va):(l.map Va.c).map (λr=>r.map (mvC k t))=l.map Va.c:=HP Va.c (λ_=>rfl) l
theorem yG(l:List Va):ES (l.map Va.c)=some (l.map Va.r):=He Va.c (λ_=>rfl) l
noncomputable def cI6:Cod (List Int):=Hh (λl=>.one (.d (.sl zIw (l.map iD)))) (λv a b h h'=>by
 cases v with
 |one c=>exact Ac Zg (G7 h h')
 |agg l=>exact h.elim
 |tup l=>exact h.elim) (λl=>rfl)
theorem A3m(l:List Int):cI6.e l= .one (.d (.sl zIw (l.map iD))):=rfl
def A7S(P:Pg):List Va:=⟨true,0,[]⟩::P.g.c.map λc=>⟨true,0,c⟩
def A3n(l:List Int):List Va:=if (l.length:Int)==0 then [⟨false,0,[]⟩] else l.map λn=>⟨false,n,[]⟩
theorem ew(p:Bool)(n:Int)(s:List UInt8):Bj [[C.v (.bool p),C.v (.int .i64 n),C.v (.string (bs s))]]:=by
 intro r h c hc
 rw[List.mem_singleton.1 h]at hc
 simp only[List.mem_cons,List.not_mem_nil,or_false]at hc
 rcases hc with rfl|rfl|rfl<;>rfl
def fnd(f:List UInt8):List Fn->Option Fn
 |[]=>none
 |g::r=>if (g.name==f)=true then some g else fnd f r
def A7T(P:Pg)(l:List Int)(v:Vr):List Va:=if v.p=true then A7S P else A3n l
def mW(P:Pg)(f:List UInt8)(l:List Int):List (List Va):=match fnd f P.fs with
 |some g=>g.ps.map (A7T P l)
 |none=>[]
def pkR:List (List Va)->Int->List Va×Int
 |[],n=>([],n)
 |c::r,n=>(c.getD ((pkR r n).2.tmod (c.length:Int)).toNat va0::(pkR r n).1,(pkR r n).2.tdiv (c.length:Int))
def pkF(l:List (List Va))(n:Int):List Va:=(pkR l n).1
theorem cj{f:List UInt8}{g:Fn}:∀{l:List Fn},fnd f l=some g->g∈l
 |x::r,h=>by
  simp only[fnd]at h
  split at h
  .rw[Option.some.inj h];exact List.mem_cons_self ..
  exact List.mem_cons_of_mem _ (cj h)
theorem mY{P:Pg}{f:List UInt8}(h:∀g∈P.fs,g.ps.length<=5000):(mW P f l).length<=5000:=by
 unfold mW
 cases hf:fnd f P.fs with
 |none=>exact Nat.zero_le _
 |some g=>dsimp only;rw[List.length_map];exact h g (cj hf)
theorem sq(l:List (List Va))(n:Int):(pkF l n).length=l.length:=by
 unfold pkF
 induction l with
 |nil=>rfl
 |cons c r ih=>show (pkR r n).1.length+1=_;rw[ih];rfl
def blS(P:Pg):Sta:=⟨blC P.g.c,blA P.g.a⟩
structure okW(N n:Nat)(P:Pg)(l:List Int)(fuel:Int):Prop where
 p:okPg N P
 c:P.g.c.length<=1000000
 a:P.g.a.length<=1000000
 q:∀x∈P.g.a,1<=x.n/\x.n<=1048576
 i:l.length<=1000000
 f:fuel<n
 n:n<=1000000000
theorem okW.ps{N n:Nat}{P:Pg}{fuel:Int}(h:okW N n P l fuel):∀g∈P.fs,g.ps.length<=5000:=λg hg=>(h.p.f g hg).1.1
theorem okW.r{N n:Nat}{fuel:Int}(h:okW N n P l fuel)(f:List UInt8)(i:Int):okR N n P (pkF (mW P f l) i) (blS P) fuel:=
 ⟨h.p,h.c,h.a,h.q,by simp[blS,blC];exact h.c,by simp[blS,blA];exact h.a,by rw[sq];exact mY h.ps,h.f,h.n⟩
abbrev bw(g:Int):Prop:=0<=g
abbrev E5(g:Int):SV:=.one (.v (.string (bs (glS g))))
noncomputable abbrev PA:ArgC ((Int)×Unit):=(acS (cInt .u8) ac0)
abbrev bx:Prop:=Cu Tryz.prog 45 PA (λp:(Int)×Unit=>bw p.1) (λp:(Int)×Unit=>E5 p.1)
theorem ey:bx:=by
 rintro ⟨g,_u⟩ w fz xs hc hfz hl hx
 refine Bu Tryz.func45 rfl w fz [] [] PA (λp:(Int)×Unit=>E5 p.1) _ xs hfz hl hx (jN rfl) ?_
 clear hx hl hfz xs
 simp only[Tryz.f45]
 cases c0:(g.tmod 5==0) with
 |true=>
  have hr:glS g=WL:=by unfold glS;rw[if_pos c0]
  simp only[seval,go_sem,c0]
  try simp only[A2,A3]
  repeat' first|exact ck|with_reducible apply And.intro|intro _
  all_goals first|exact trivial|exact KZ|(refine A1 [] ?_;simp only[seval,go_sem,bne,E5,hr,WL])
 |false=>
 cases c1:(g.tmod 5==1) with
 |true=>
  have hr:glS g=WM:=by unfold glS;rw[if_neg (by rw[c0];decide),if_pos c1]
  simp only[seval,go_sem,c0,c1]
  try simp only[A2,A3]
  repeat' first|exact ck|with_reducible apply And.intro|intro _
  all_goals first|exact trivial|exact KZ|(refine A1 [] ?_;simp only[seval,go_sem,bne,E5,hr,WM])
 |false=>
 cases c2:(g.tmod 5==2) with
 |true=>
  have hr:glS g=WN:=by unfold glS;rw[if_neg (by rw[c0];decide),if_neg (by rw[c1];decide),if_pos c2]
  simp only[seval,go_sem,c0,c1,c2]
  try simp only[A2,A3]
  repeat' first|exact ck|with_reducible apply And.intro|intro _
  all_goals first|exact trivial|exact KZ|(refine A1 [] ?_;simp only[seval,go_sem,bne,E5,hr,WN])
 |false=>
 cases c3:(g.tmod 5==3) with
 |true=>
  have hr:glS g=WO:=by unfold glS;rw[if_neg (by rw[c0];decide),if_neg (by rw[c1];decide),if_neg (by rw[c2];decide),if_pos c3]
  simp only[seval,go_sem,c0,c1,c2,c3]
  try simp only[A2,A3]
  repeat' first|exact ck|with_reducible apply And.intro|intro _
  all_goals first|exact trivial|exact KZ|(refine A1 [] ?_;simp only[seval,go_sem,bne,E5,hr,WO])
 |false=>
 have hr:glS g=WP:=by unfold glS;rw[if_neg (by rw[c0];decide),if_neg (by rw[c1];decide),if_neg (by rw[c2];decide),if_neg (by rw[c3];decide)]
 simp only[seval,go_sem,c0,c1,c2,c3]
 try simp only[A2,A3]
 repeat' first|exact ck|with_reducible apply And.intro|intro _
 all_goals first|exact trivial|exact KZ|(refine A1 [] ?_;simp only[seval,go_sem,bne,E5,hr,WP])
noncomputable def GU{X:Ctx}{w0:World}:Sy.Spec Tryz.prog X w0:=E2 45 Tryz.call45 PA _ _ KF5 ey
end Go.Proofs.YtapedeoheilnnaaGreat
