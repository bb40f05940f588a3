/- Light states; states and outcomes held against themselves, walked. Conditions: lengths; both are the same. -/
import Derived.Test.YtjnnmindcbgjhaaRmn
set_option linter.unusedVariables false
set_option linter.unusedSimpArgs false
set_option maxRecDepth 20000
set_option maxHeartbeats 8000000
namespace Go.Proofs.Ytjnnmindcbgjhaa
open Go Go.Sy Go.RowKit
structure Ou where
 e:Int
 v:Int
 f:List UInt8
 al:Int
 k:Int
 s:Sta
def Ou.c (x:Ou):List C:=[.v (.int .i64 x.e),.v (.int .i64 x.v),.v (.string (bs x.f)),.v (.int .i64 x.al),.v (.int .i64 x.k),.d (.sl G6 (x.s.cs.map Nb.r)),.d (.sl G7 (x.s.ar.map Na.r))]
theorem A10 (v:SV) (a b:Ou) (h:leV v (.agg a.c)) (h':leV v (.agg b.c)):a=b:=by
 cases v with
 |one c=>exact h.elim
 |tup l=>exact h.elim
 |agg l=>
  obtain⟨e,v,f,al,k,cs,ar⟩:=a
  obtain⟨e',v',f',al',k',cs',ar'⟩:=b
  match l,h,h' with
  |[c0,c1,c2,c3,c4,c5,c6],⟨h0,h1,h2,h3,h4,h5,h6,_⟩,⟨g0,g1,g2,g3,g4,g5,g6,_⟩=>
   have e0:=Ls h0 g0
   have e1:=Ls h1 g1
   have e2:=Ls h2 g2
   have e3:=Ls h3 g3
   have e4:=Ls h4 g4
   simp only[Value.string.injEq,Value.int.injEq,true_and]at e0 e1 e2 e3 e4
   have k2:=bs_inj e2
   have k5:=Az V7 (F0 h5 g5)
   have k6:=Az V8 (F0 h6 g6)
   subst e0;subst e1;subst k2;subst e3;subst e4;subst k5;subst k6;rfl
noncomputable def cOu:Cod Ou:=Gn (fun x=>.agg x.c) A10 (fun x=>rfl)
theorem ky (x:Ou):cOu.e x= .agg x.c:=rfl
theorem ax (e v al k:Int) (f:List UInt8) (cs:List Nb) (ar:List Na):cOu.d (.agg [.v (.int .i64 e),.v (.int .i64 v),.v (.string (bs f)),.v (.int .i64 al),.v (.int .i64 k),.d (.sl G6 (cs.map Nb.r)),.d (.sl G7 (ar.map Na.r))])=some ⟨e,v,f,al,k,⟨cs,ar⟩⟩:=D9 (e:=fun x:Ou=>.agg x.c) (a:=⟨e,v,f,al,k,⟨cs,ar⟩⟩) (Dp _)
def lsB (s:Sta):Bool:=!decide (5<(s.cs.length:Int))&&!decide (5<(s.ar.length:Int))&&s.ar.all fun x=>!decide (12<(x.l.length:Int))
theorem cz {l:List Nb} {i:Nat} {x:Nb} (h:l[i]?=some x) (z:List D):(l.map Nb.r).getD i z=x.r:=by simp[List.getD,h]
theorem X8 {l:List Na} {i:Nat} {x:Na} (h:l[i]?=some x) (z:List D):(l.map Na.r).getD i z=x.r:=by simp[List.getD,h]
theorem A11 {l:List Int} {i:Nat} {x:Int} (h:l[i]?=some x) (z:List D):(l.map iD).getD i z=[.v (.int .i64 x)]:=by simp[List.getD,h,iD]
abbrev Vy (s:Sta):Prop:=True
abbrev DO (s:Sta):SV:=.one (.v (.bool (lsB s)))
noncomputable abbrev Qt:ArgC ((Sta)×Unit):=(acS (cSta) ac0)
abbrev dA:Prop:=CY Try.prog 19 Qt (fun p:(Sta)×Unit=>Vy p.1) (fun p:(Sta)×Unit=>DO p.1)
theorem dB:∀p:(Sta)×Unit,((fun p:(Sta)×Unit=>DO p.1) p).names=[]:=by intro p;rfl
attribute [local go_sem] Na.r Nb.r Ou.c ax ky Nk PZ stR
theorem gd:dA:=by
 rintro ⟨s,_u⟩ w fz xs hc hfz hl hx
 refine BZ Try.func19 rfl w fz [] [] Qt (fun p:(Sta)×Unit=>DO p.1) _ xs hfz hl hx (jN rfl) ?_
 clear hx hl hfz xs
 simp only[Try.f19]
 obtain⟨sc,sa⟩:=s
 cases h1:decide (5<(sc.length:Int)) with
 |true=>
  have hr:lsB ⟨sc,sa⟩=false:=by unfold lsB;dsimp only;rw[h1];rfl
  cases h2:decide (5<(sa.length:Int))<;>
  (
   simp only[↓eB,seval,go_sem,iD,h1,h2]
   refine A0 [] ?_;simp only[↓eB,seval,go_sem,bne,DO,hr])
 |false=>
 cases h2:decide (5<(sa.length:Int)) with
 |true=>
  have hr:lsB ⟨sc,sa⟩=false:=by unfold lsB;dsimp only;rw[h1,h2];rfl
  simp only[↓eB,seval,go_sem,iD,h1,h2]
  refine A0 [] ?_;simp only[↓eB,seval,go_sem,bne,DO,hr]
 |false=>
  have hl:sa.length≤5:=by have:=of_decide_eq_false h2;omega
  have hr:lsB ⟨sc,sa⟩=sa.all fun x=>!decide (12<(x.l.length:Int)):=by unfold lsB;dsimp only;rw[h1,h2];rfl
  simp only[↓eB,seval,go_sem,iD,h1,h2]
  refine AU (Y:=Nat) (fun i=>i≤sa.length∧lsB ⟨sc,sa⟩=(sa.drop i).all fun x=>!decide (12<(x.l.length:Int)))
   (fun i=>⟨[(1,true,.one (.p 1 0 0)),(3,true,.one (.v (.int .i64 (i:Int))))],[(1,.vec 0 [.v (.bool false),.v (.bool false)] [[.d (.sl G6 (sc.map Nb.r)),.d (.sl G7 (sa.map Na.r))]])]⟩)
   (fun i=>sa.length-i) 0 ⟨Nat.zero_le _,hr⟩ ?_ ?_
  ·refine A2 [] ?_;simp only[↓eB,seval,go_sem,iD]
  ·rintro i ⟨hi,hJ⟩
   refine Ak [] [] _ _ _ ?_
   have w1:IntKind.i64.wrap ((i:Int)+1)=((i+1:Nat):Int):=by rw[wrap_i64 (by omega) (by omega)];rfl
   cases hx:sa[i]? with
   |none=>
    have g2:=List.getElem?_eq_none_iff.1 hx
    have g1:=BA g2
    have hr2:lsB ⟨sc,sa⟩=true:=by rw[hJ,List.drop_eq_nil_of_le g2];rfl
    simp only[↓eB,seval,go_sem,iD,g1]
    refine A0 [] ?_;simp only[↓eB,seval,go_sem,bne,DO,hr2]
   |some x=>
    have hlt:=(List.getElem?_eq_some_iff.1 hx).1
    have g1:=B9 hlt
    have hil:(i:Int)<(sa.length:Int):=by omega
    have hz:=X8 hx
    rw[Bp hx,List.all_cons]at hJ
    obtain⟨xs,xl⟩:=x
    dsimp only at hJ
    cases h3:decide (12<(xl.length:Int)) with
    |true=>
     have hr2:lsB ⟨sc,sa⟩=false:=by rw[hJ,h3];rfl
     simp only[↓eB,seval,go_sem,iD,g1,hz,h3]
     refine⟨hil,?_⟩
     refine A0 [] ?_;simp only[↓eB,seval,go_sem,bne,DO,hr2]
    |false=>
     rw[h3]at hJ
     simp only[↓eB,seval,go_sem,iD,g1,hz,h3,w1]
     refine⟨hil,i+1,⟨hlt,hJ⟩,(by omega),?_⟩
     refine A2 [] ?_;simp only[↓eB,seval,go_sem,iD]
noncomputable def GC {X:Ctx} {w0:World}:Sy.Spec Try.prog X w0:=D4 19 Try.call19 Qt (fun p:(Sta)×Unit=>Vy p.1) (fun p:(Sta)×Unit=>DO p.1) dB gd
abbrev Qu (a:Sta) (b:Sta):Prop:=a=b∧a.cs.length≤1000000∧a.ar.length≤1000000∧∀x∈a.ar,x.l.length≤1000000000
abbrev E5 (a:Sta) (b:Sta):SV:=.one (.v (.bool true))
noncomputable abbrev Qv:ArgC ((Sta)×(Sta)×Unit):=(acS (cSta) (acS (cSta) ac0))
abbrev dC:Prop:=CY Try.prog 21 Qv (fun p:(Sta)×(Sta)×Unit=>Qu p.1 p.2.1) (fun p:(Sta)×(Sta)×Unit=>E5 p.1 p.2.1)
theorem dD:∀p:(Sta)×(Sta)×Unit,((fun p:(Sta)×(Sta)×Unit=>E5 p.1 p.2.1) p).names=[]:=by intro p;rfl
theorem gf:dC:=by
 rintro ⟨a,b,_u⟩ w fz xs hc hfz hl hx
 refine BZ Try.func21 rfl w fz [] [] Qv (fun p:(Sta)×(Sta)×Unit=>E5 p.1 p.2.1) _ xs hfz hl hx (jN rfl) ?_
 clear hx hl hfz xs
 simp only[Try.f21]
 dsimp only at hc
 obtain⟨h0,h1,h2,h3⟩:=hc
 subst h0
 obtain⟨sc,sa⟩:=a
 dsimp only at h1 h2 h3
 simp only[↓eB,seval,go_sem,iD,bne_self_eq_false,beq_self_eq_true]
 refine AU (Y:=Nat) (fun i=>i≤sc.length)
  (fun i=>⟨[(2,true,.one (.p 2 0 0)),(3,true,.one (.p 3 0 0)),(5,true,.one (.v (.int .i64 (i:Int))))],[(2,.vec 0 [.v (.bool false),.v (.bool false)] [[.d (.sl G6 (sc.map Nb.r)),.d (.sl G7 (sa.map Na.r))]]),(3,.vec 0 [.v (.bool false),.v (.bool false)] [[.d (.sl G6 (sc.map Nb.r)),.d (.sl G7 (sa.map Na.r))]])]⟩)
  (fun i=>sc.length-i) 0 (Nat.zero_le _) ?_ ?_
 ·refine A2 [] ?_;simp only[↓eB,seval,go_sem,iD]
 ·rintro i hi
  refine Ak [] [] _ _ _ ?_
  have w1:IntKind.i64.wrap ((i:Int)+1)=((i+1:Nat):Int):=by rw[wrap_i64 (by omega) (by omega)];rfl
  cases hx:sc[i]? with
  |some x=>
   have hlt:=(List.getElem?_eq_some_iff.1 hx).1
   have g1:=B9 hlt
   have hil:(i:Int)<(sc.length:Int):=by omega
   have hz:=cz hx
   simp only[↓eB,seval,go_sem,iD,g1,hz,w1,bne_self_eq_false,beq_self_eq_true]
   refine⟨hil,hil,C7 (by kernel_rfl),i+1,hlt,(by omega),?_⟩
   refine A2 [] ?_;simp only[↓eB,seval,go_sem,iD]
  |none=>
   have g2:=List.getElem?_eq_none_iff.1 hx
   have g1:=BA g2
   simp only[↓eB,seval,go_sem,iD,g1]
   refine AU (Y:=Nat) (fun i=>i≤sa.length)
    (fun i=>⟨[(2,true,.one (.p 2 0 0)),(3,true,.one (.p 3 0 0)),(6,true,.one (.v (.int .i64 (i:Int))))],[(2,.vec 0 [.v (.bool false),.v (.bool false)] [[.d (.sl G6 (sc.map Nb.r)),.d (.sl G7 (sa.map Na.r))]]),(3,.vec 0 [.v (.bool false),.v (.bool false)] [[.d (.sl G6 (sc.map Nb.r)),.d (.sl G7 (sa.map Na.r))]])]⟩)
    (fun i=>sa.length-i) 0 (Nat.zero_le _) ?_ ?_
   ·refine A2 [] ?_;simp only[↓eB,seval,go_sem,iD]
   ·rintro j hj
    refine Ak [] [] _ _ _ ?_
    have w2:IntKind.i64.wrap ((j:Int)+1)=((j+1:Nat):Int):=by rw[wrap_i64 (by omega) (by omega)];rfl
    cases hy:sa[j]? with
    |none=>
     have k2:=List.getElem?_eq_none_iff.1 hy
     have k1:=BA k2
     simp only[↓eB,seval,go_sem,iD,k1]
     refine A0 [] ?_;simp only[↓eB,seval,go_sem,bne,E5]
    |some y=>
     have hlt:=(List.getElem?_eq_some_iff.1 hy).1
     have k1:=B9 hlt
     have hjl:(j:Int)<(sa.length:Int):=by omega
     have hz:=X8 hy
     have hyl:=h3 y (List.mem_of_getElem? hy)
     obtain⟨ys,yl⟩:=y
     dsimp only at hyl
     simp only[↓eB,seval,go_sem,iD,k1,hz,bne_self_eq_false,beq_self_eq_true]
     refine⟨hjl,hjl,hjl,hjl,C7 (by kernel_rfl),?_⟩
     refine AU (Y:=Nat) (fun k=>k≤yl.length)
      (fun k=>⟨[(2,true,.one (.p 2 0 0)),(3,true,.one (.p 3 0 0)),(6,true,.one (.v (.int .i64 (j:Int)))),(7,true,.one (.v (.int .i64 (k:Int))))],[(2,.vec 0 [.v (.bool false),.v (.bool false)] [[.d (.sl G6 (sc.map Nb.r)),.d (.sl G7 (sa.map Na.r))]]),(3,.vec 0 [.v (.bool false),.v (.bool false)] [[.d (.sl G6 (sc.map Nb.r)),.d (.sl G7 (sa.map Na.r))]])]⟩)
      (fun k=>yl.length-k) 0 (Nat.zero_le _) ?_ ?_
     ·refine A2 [] ?_;simp only[↓eB,seval,go_sem,iD]
     ·rintro k hk
      refine Ak [] [] _ _ _ ?_
      have w3:IntKind.i64.wrap ((k:Int)+1)=((k+1:Nat):Int):=by rw[wrap_i64 (by omega) (by omega)];rfl
      cases hq:yl[k]? with
      |none=>
       have q2:=List.getElem?_eq_none_iff.1 hq
       have q1:=BA q2
       simp only[↓eB,seval,go_sem,iD,hz,q1,w2]
       refine⟨hjl,j+1,hlt,(by omega),?_⟩
       refine A2 [] ?_;simp only[↓eB,seval,go_sem,iD]
      |some q=>
       have hqlt:=(List.getElem?_eq_some_iff.1 hq).1
       have q1:=B9 hqlt
       have hkl:(k:Int)<(yl.length:Int):=by omega
       have hzq:=A11 hq
       simp only[↓eB,seval,go_sem,iD,hz,hzq,q1,w3,bne_self_eq_false]
       refine⟨hjl,hjl,hkl,hjl,hkl,C7 (by kernel_rfl),k+1,hqlt,(by omega),?_⟩
       refine A2 [] ?_;simp only[↓eB,seval,go_sem,iD]
noncomputable def Er {X:Ctx} {w0:World}:Sy.Spec Try.prog X w0:=D4 21 Try.call21 Qv (fun p:(Sta)×(Sta)×Unit=>Qu p.1 p.2.1) (fun p:(Sta)×(Sta)×Unit=>E5 p.1 p.2.1) dD gf
abbrev Th (a:Ou) (b:Ou):Prop:=a=b∧a.s.cs.length≤1000000∧a.s.ar.length≤1000000∧∀x∈a.s.ar,x.l.length≤1000000000
abbrev Dk (a:Ou) (b:Ou):SV:=.one (.v (.bool true))
noncomputable abbrev Pz:ArgC ((Ou)×(Ou)×Unit):=(acS (cOu) (acS (cOu) ac0))
abbrev ay:Prop:=CY Try.prog 18 Pz (fun p:(Ou)×(Ou)×Unit=>Th p.1 p.2.1) (fun p:(Ou)×(Ou)×Unit=>Dk p.1 p.2.1)
theorem b4:∀p:(Ou)×(Ou)×Unit,((fun p:(Ou)×(Ou)×Unit=>Dk p.1 p.2.1) p).names=[]:=by intro p;rfl
theorem dE:ay:=by
 rintro ⟨a,b,_u⟩ w fz xs hc hfz hl hx
 refine BZ Try.func18 rfl w fz [Er] [] Pz (fun p:(Ou)×(Ou)×Unit=>Dk p.1 p.2.1) _ xs hfz hl hx (jN rfl) ?_
 clear hx hl hfz xs
 simp only[Try.f18]
 dsimp only at hc
 obtain⟨h0,h1,h2,h3⟩:=hc
 subst h0
 obtain⟨e,v,f,al,k,sc,sa⟩:=a
 dsimp only at h1 h2 h3
 simp only[↓eB,seval,go_sem,Er,iD,bne_self_eq_false,beq_self_eq_true]
 refine⟨⟨rfl,h1,h2,h3⟩,?_⟩
 refine A0 [] ?_;simp only[↓eB,seval,go_sem,bne,Dk,E5]
noncomputable def FT {X:Ctx} {w0:World}:Sy.Spec Try.prog X w0:=D4 18 Try.call18 Pz (fun p:(Ou)×(Ou)×Unit=>Th p.1 p.2.1) (fun p:(Ou)×(Ou)×Unit=>Dk p.1 p.2.1) b4 dE
end Go.Proofs.Ytjnnmindcbgjhaa
