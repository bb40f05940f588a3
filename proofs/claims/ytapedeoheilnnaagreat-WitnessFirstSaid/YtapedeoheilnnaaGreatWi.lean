/- The program's tries: candidates for pointers and integers, walked. Conditions: lengths. -/
import Derived.Test.YtapedeoheilnnaaGreatRml
set_option linter.all false
set_option maxRecDepth 20000
set_option maxHeartbeats 8000000
namespace Go.Proofs.YtapedeoheilnnaaGreat
open Go Go.Sy Go.RowKit
theorem nD{P:Prop}(h:P:=by
 rw[ht]
 refine A2 [] ?_;simp only[seval,go_sem,List.map_append,List.flatMap_append]):P:=h
def GA:List C:=[.v (.bool false),.v (.int .i64 0),.v (.string (bs []))]
theorem Jb(l:List Va):List.flatMap (λr=>List.flatMap C.names r) (l.map Va.c)=[]:=List.flatMap_eq_nil_iff.2 λp hp=>by
 exact eC
theorem ZS(k t:Nat)(l:List Va):(l.map Va.c).map (λr=>r.map (mvC k t))=l.map Va.c:=HU Va.c (λ_=>rfl) l
theorem kR(l:List Va):EZ (l.map Va.c)=some (l.map Va.r):=Hi Va.c (λ_=>rfl) l
noncomputable def cI6:Cod (List Int):=Hl (λl=>.one (.d (.sl zIw (l.map iD)))) (λv a b h h'=>by
 cases v with
 |one c=>exact Aj aD (GH h h')
 |agg l=>exact h.elim
 |tup l=>exact h.elim) (λl=>rfl)
theorem rL(l:List Int):cI6.e l= .one (.d (.sl zIw (l.map iD))):=rfl
theorem rM(l:List Int):cI6.d (.one (.d (.sl zIw (l.map iD))))=some l:=E4 (e:=λl:List Int=>.one (.d (.sl zIw (l.map iD)))) (F4 _)
theorem B0t(x:Int):cI6.d (.one (.d (.sl [.v (.int .i64 0)] [[.v (.int .i64 x)]])))=some [x]:=rM [x]
theorem B1a(x y:Int):cI6.d (.one (.d (.sl [.v (.int .i64 0)] [[.v (.int .i64 x)],[.v (.int .i64 y)]])))=some [x,y]:=rM [x,y]
def A7s(P:Pg):List Va:=⟨true,0,[]⟩::P.g.c.map λc=>⟨true,0,c⟩
def A4b(l:List Int):List Va:=if (l.length:Int)==0 then [⟨false,0,[]⟩] else l.map λn=>⟨false,n,[]⟩
def A9c(pc:List (List UInt8))(i:Nat):List Va:=⟨true,0,[]⟩::(pc.take i).map λc=>⟨true,0,c⟩
def nU(l:List Int)(i:Nat):List Va:=(l.take i).map λn=>⟨false,n,[]⟩
theorem B0u(pc:List (List UInt8)):A9c pc 0=[⟨true,0,[]⟩]:=rfl
theorem B0a(l:List Int):nU l 0=[]:=rfl
theorem gK(p:Bool)(n:Int)(s:List UInt8):BS [[C.v (.bool p),C.v (.int .i64 n),C.v (.string (bs s))]]:=by
 intro r h c hc
 rw[List.mem_singleton.1 h]at hc
 simp only[List.mem_cons,List.not_mem_nil,or_false]at hc
 exact AAt
abbrev B0W(p:Pg):Prop:=p.g.c.length<=1000000
abbrev A9r(p:Pg):SV:=.one (.d (.sl IQ ((A7s p).map Va.r)))
noncomputable abbrev A9x:ArgC ((Pg)×Unit):=(acS (cPg) ac0)
abbrev B0X:Prop:=Ca Tryz.prog 54 A9x (λp:(Pg)×Unit=>B0W p.1) (λp:(Pg)×Unit=>A9r p.1)
attribute [local go_sem] Va.c Va.r rM rL GM GL pgR kR ZS Jb
theorem B0j:B0X:=by
 rintro ⟨p,_u⟩ w fz xs hc hfz hl hx
 refine Bg Tryz.func54 rfl w fz [] [] A9x (λp:(Pg)×Unit=>A9r p.1) _ xs hfz hl hx (jN rfl) ?_
 clear hx hl hfz xs
 simp only[Tryz.f54]
 obtain⟨⟨pc,pa⟩,pf⟩:=p
 have hc:pc.length<=1000000:=hc
 simp only[seval,go_sem]
 refine AC (Y:=Nat) (λi=>i<=pc.length)
  (λi=>⟨[(3,true,.one (.s 1000)),(10,true,.one (.d (.sl Fq (pc.map cSd)))),(11,true,.one (.v (.int .i64 (pc.length:Int)))),(12,true,.one (.v (.int .i64 (i:Int))))],
   [(1000,.vec 0 GA ((A9c pc i).map Va.c))]⟩)
  (λi=>pc.length-i) 0 (Nat.zero_le _) ?_ ?_
 .refine A2 [.mv 7 1000] ?_;simp only[seval,go_sem,GA,B0u]
 rintro i hi
 refine AP [] [] _ _ _ ?_
 have w1:IntKind.i64.wrap ((i:Int)+1)=((i+1:Nat):Int):=by rw[wrap_i64 (by omega) (by omega)];rfl
 cases hx:pc[i]? with
 |none=>
  have g2:=List.getElem?_eq_none_iff.1 hx
  have g1:=Ai g2
  have hr:A7s ⟨⟨pc,pa⟩,pf⟩=A9c pc i:=by unfold A9c;rw[List.take_of_length_le g2];rfl
  simp only[seval,go_sem,g1]
  refine A1 [.fz 1000] ?_;simp only[seval,go_sem,bne,A9r,hr,GA]
 |some x=>
 have hlt:=(List.getElem?_eq_some_iff.1 hx).1
 have g1:=Ah hlt
 have hil:(i:Int)<(pc.length:Int):=by omega
 have hs:(pc.map cSd).getD i Fq=cSd x:=by simp[List.getD,hx]
 have hln:(A9c pc i).length=i+1:=by simp[A9c];omega
 have ht:(A9c pc (i+1)).map Va.c=(A9c pc i).map Va.c++[[.v (.bool true),.v (.int .i64 0),.v (.string (bs x))]]:=by
  unfold A9c;rw[List.take_add_one,hx];simp[Va.c]
 simp only[seval,go_sem,g1,hs,cSd,w1]
 refine⟨⟨hil,rfl⟩,⟨⟨rfl,.inl rfl⟩,(λq h=>by cases h;rfl),gK _ _ _,(by decide),(by omega),(by omega)⟩,i+1,hlt,(by omega),BU (t:=⟨[(3,true,.one (.s 20)),(10,true,.one (.d (.sl Fq (pc.map cSd)))),(11,true,.one (.v (.int .i64 (pc.length:Int)))),(12,true,.one (.v (.int .i64 ((i+1:Nat):Int))))],
  [(20,.vec 0 GA ((A9c pc (i+1)).map Va.c))]⟩) ?_ ?_⟩
 .exact nD
 refine A2 [.mv 20 1000] ?_;simp only[seval,go_sem]
noncomputable def A9f{X:Ctx}{w0:World}:Sy.Spec Tryz.prog X w0:=Dq 54 Tryz.call54 A9x _ _ KF2 B0j
abbrev B0Y(l:List Int):Prop:=l.length<=1000000
abbrev A9j(l:List Int):SV:=.one (.d (.sl IQ ((A4b l).map Va.r)))
noncomputable abbrev A9y:ArgC ((List Int)×Unit):=(acS (cI6) ac0)
abbrev B0Z:Prop:=Ca Tryz.prog 55 A9y (λp:(List Int)×Unit=>B0Y p.1) (λp:(List Int)×Unit=>A9j p.1)
theorem B0k:B0Z:=by
 rintro ⟨l,_u⟩ w fz xs hc hfz hl hx
 refine Bg Tryz.func55 rfl w fz [] [] A9y (λp:(List Int)×Unit=>A9j p.1) _ xs hfz hl hx (jN rfl) ?_
 clear hx hl hfz xs
 simp only[Tryz.f55]
 have hc:l.length<=1000000:=hc
 cases h0:((l.length:Int)==0) with
 |true=>
  have hr:A4b l=[⟨false,0,[]⟩]:=if_pos h0
  simp only[seval,go_sem,h0]
  refine A1 [.fz 10] ?_;simp only[seval,go_sem,bne,A9j,hr]
 |false=>
 have hr0:A4b l=l.map λn=>⟨false,n,[]⟩:=if_neg (by rw[h0];decide)
 simp only[seval,go_sem,h0]
 refine AC (Y:=Nat) (λi=>i<=l.length)
  (λi=>⟨[(3,true,.one (.s 1000)),(11,true,.one (.d (.sl zIw (l.map iD)))),(12,true,.one (.v (.int .i64 (l.length:Int)))),(13,true,.one (.v (.int .i64 (i:Int))))],
   [(1000,.vec 0 GA ((nU l i).map Va.c))]⟩)
  (λi=>l.length-i) 0 (Nat.zero_le _) ?_ ?_
 .refine A2 [.nil 3 1000 GA] ?_;simp only[seval,go_sem,GA,B0a]
 rintro i hi
 refine AP [] [] _ _ _ ?_
 have w1:IntKind.i64.wrap ((i:Int)+1)=((i+1:Nat):Int):=by rw[wrap_i64 (by omega) (by omega)];rfl
 cases hx:l[i]? with
 |none=>
  have g2:=List.getElem?_eq_none_iff.1 hx
  have g1:=Ai g2
  have hr:A4b l=nU l i:=by unfold nU;rw[hr0,List.take_of_length_le g2]
  simp only[seval,go_sem,g1]
  refine A1 [.fz 1000] ?_;simp only[seval,go_sem,bne,A9j,hr,GA]
 |some x=>
 have hlt:=(List.getElem?_eq_some_iff.1 hx).1
 have g1:=Ah hlt
 have hil:(i:Int)<(l.length:Int):=by omega
 have hs:=A4X hx
 have hln:(nU l i).length=i:=by simp[nU];omega
 have ht:((nU l (i+1))).map Va.c=(nU l i).map Va.c++[[.v (.bool false),.v (.int .i64 x),.v (.string (bs []))]]:=by
  unfold nU;rw[List.take_add_one,hx];simp[Va.c]
 simp only[seval,go_sem,g1,hs,w1]
 refine⟨hil,⟨⟨rfl,.inl rfl⟩,(λq h=>by cases h;rfl),gK _ _ _,(by decide),(by omega),(by omega)⟩,i+1,hlt,(by omega),BU (t:=⟨[(3,true,.one (.s 21)),(11,true,.one (.d (.sl zIw (l.map iD)))),(12,true,.one (.v (.int .i64 (l.length:Int)))),(13,true,.one (.v (.int .i64 ((i+1:Nat):Int))))],
  [(21,.vec 0 GA ((nU l (i+1)).map Va.c))]⟩) ?_ ?_⟩
 .exact nD
 refine A2 [.mv 21 1000] ?_;simp only[seval,go_sem]
noncomputable def A9g{X:Ctx}{w0:World}:Sy.Spec Tryz.prog X w0:=Dq 55 Tryz.call55 A9y _ _ KF2 B0k
end Go.Proofs.YtapedeoheilnnaaGreat
