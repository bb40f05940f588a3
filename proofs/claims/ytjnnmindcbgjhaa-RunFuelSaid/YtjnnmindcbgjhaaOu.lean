/- Light states; states and outcomes held against themselves, walked. Conditions: lengths; both are the same. -/
import Derived.Test.YtjnnmindcbgjhaaRmn
set_option linter.unusedVariables false
set_option linter.unusedSimpArgs false
set_option maxRecDepth 100000
set_option maxHeartbeats 8000000
namespace Go.Proofs.Ytjnnmindcbgjhaa
open Go Go.Sy Go.RowKit
structure Ou where
 e:Int
 v:Int
 f:List UInt8
 al:Int
 k:Int
 s:Sta
def Ou.c (x:Ou):List C:=[.v (.int .i64 x.e),.v (.int .i64 x.v),.v (.string (bs x.f)),.v (.int .i64 x.al),.v (.int .i64 x.k),.d (.sl IX (x.s.cs.map Nb.r)),.d (.sl IY (x.s.ar.map Na.r))]
theorem A0j (v:SV) (a b:Ou) (h:leV v (.agg a.c)) (h':leV v (.agg b.c)):a=b:=by
 cases v with
 |one c=>exact h.elim
 |tup l=>exact h.elim
 |agg l=>
  obtain⟨e,v,f,al,k,cs,ar⟩:=a
  obtain⟨e',v',f',al',k',cs',ar'⟩:=b
  match l,h,h' with
  |[c0,c1,c2,c3,c4,c5,c6],⟨h0,h1,h2,h3,h4,h5,h6,_⟩,⟨g0,g1,g2,g3,g4,g5,g6,_⟩=>
   have e0:=Lb h0 g0
   have e1:=Lb h1 g1
   have e2:=Lb h2 g2
   have e3:=Lb h3 g3
   have e4:=Lb h4 g4
   simp only[Value.string.injEq,Value.int.injEq,true_and]at e0 e1 e2 e3 e4
   have k2:=bs_inj e2
   have k5:=Ay Ur (Ez h5 g5)
   have k6:=Ay Us (Ez h6 g6)
   subst e0;subst e1;subst k2;subst e3;subst e4;subst k5;subst k6;rfl
noncomputable def cOu:Cod Ou:=GZ (fun x=>.agg x.c) A0j (fun x=>rfl)
theorem kQ (x:Ou):cOu.e x= .agg x.c:=rfl
theorem aK (e v al k:Int) (f:List UInt8) (cs:List Nb) (ar:List Na):cOu.d (.agg [.v (.int .i64 e),.v (.int .i64 v),.v (.string (bs f)),.v (.int .i64 al),.v (.int .i64 k),.d (.sl IX (cs.map Nb.r)),.d (.sl IY (ar.map Na.r))])=some ⟨e,v,f,al,k,⟨cs,ar⟩⟩:=D7 (e:=fun x:Ou=>.agg x.c) (a:=⟨e,v,f,al,k,⟨cs,ar⟩⟩) (Do _)
theorem uG {l:List Nb} {i:Nat} {x:Nb} (h:l[i]?=some x) (z:List D):(l.map Nb.r).getD i z=x.r:=by simp[List.getD,h]
theorem uH {l:List Na} {i:Nat} {x:Na} (h:l[i]?=some x) (z:List D):(l.map Na.r).getD i z=x.r:=by simp[List.getD,h]
theorem A0k {l:List Int} {i:Nat} {x:Int} (h:l[i]?=some x) (z:List D):(l.map iD).getD i z=[.v (.int .i64 x)]:=by simp[List.getD,h,iD]
abbrev Vh (a:Sta) (b:Sta):Prop:=a=b∧a.cs.length≤1000000∧a.ar.length≤1000000∧∀x∈a.ar,x.l.length≤1000000000
abbrev K0 (a:Sta) (b:Sta):SV:=.one (.v (.bool true))
noncomputable abbrev Qc:ArgC ((Sta)×(Sta)×Unit):=(acS (cSta) (acS (cSta) ac0))
abbrev cR:Prop:=Cc Try.prog 21 Qc (fun p:(Sta)×(Sta)×Unit=>Vh p.1 p.2.1) (fun p:(Sta)×(Sta)×Unit=>K0 p.1 p.2.1)
theorem cT:∀p:(Sta)×(Sta)×Unit,((fun p:(Sta)×(Sta)×Unit=>K0 p.1 p.2.1) p).names=[]:=by intro p;rfl
attribute [local go_sem] Na.r Nb.r Ou.c aK kQ PI Qw stR
theorem gK:cR:=by
 rintro ⟨a,b,_u⟩ w fz xs hc hfz hl hx
 refine Bj Try.func21 rfl w fz [] [] Qc (fun p:(Sta)×(Sta)×Unit=>K0 p.1 p.2.1) _ xs hfz hl hx (jN rfl) ?_
 clear hx hl hfz xs
 simp only[Try.f21]
 dsimp only at hc
 obtain⟨h0,h1,h2,h3⟩:=hc
 subst h0
 obtain⟨sc,sa⟩:=a
 dsimp only at h1 h2 h3
 simp only[↓eB,seval,go_sem,iD,bne_self_eq_false,beq_self_eq_true]
 refine Ab (Y:=Nat) (fun i=>i≤sc.length)
  (fun i=>⟨[(2,true,.one (.p 2 0 0)),(3,true,.one (.p 3 0 0)),(5,true,.one (.v (.int .i64 (i:Int))))],[(2,.vec 0 [.v (.bool false),.v (.bool false)] [[.d (.sl IX (sc.map Nb.r)),.d (.sl IY (sa.map Na.r))]]),(3,.vec 0 [.v (.bool false),.v (.bool false)] [[.d (.sl IX (sc.map Nb.r)),.d (.sl IY (sa.map Na.r))]])]⟩)
  (fun i=>sc.length-i) 0 (Nat.zero_le _) ?_ ?_
 ·refine A4 [] ?_;simp only[↓eB,seval,go_sem,iD]
 ·rintro i hi
  refine Au [] [] _ _ _ ?_
  have w1:IntKind.i64.wrap ((i:Int)+1)=((i+1:Nat):Int):=by rw[wrap_i64 (by omega) (by omega)];rfl
  cases hx:sc[i]? with
  |some x=>
   have hlt:=(List.getElem?_eq_some_iff.1 hx).1
   have g1:=BF hlt
   have hil:(i:Int)<(sc.length:Int):=by omega
   have hz:=uG hx
   simp only[↓eB,seval,go_sem,iD,g1,hz,w1,bne_self_eq_false,beq_self_eq_true]
   refine⟨hil,hil,Cs (by kernel_rfl),i+1,hlt,(by omega),?_⟩
   refine A4 [] ?_;simp only[↓eB,seval,go_sem,iD]
  |none=>
   have g2:=List.getElem?_eq_none_iff.1 hx
   have g1:=BG g2
   simp only[↓eB,seval,go_sem,iD,g1]
   refine Ab (Y:=Nat) (fun i=>i≤sa.length)
    (fun i=>⟨[(2,true,.one (.p 2 0 0)),(3,true,.one (.p 3 0 0)),(6,true,.one (.v (.int .i64 (i:Int))))],[(2,.vec 0 [.v (.bool false),.v (.bool false)] [[.d (.sl IX (sc.map Nb.r)),.d (.sl IY (sa.map Na.r))]]),(3,.vec 0 [.v (.bool false),.v (.bool false)] [[.d (.sl IX (sc.map Nb.r)),.d (.sl IY (sa.map Na.r))]])]⟩)
    (fun i=>sa.length-i) 0 (Nat.zero_le _) ?_ ?_
   ·refine A4 [] ?_;simp only[↓eB,seval,go_sem,iD]
   ·rintro j hj
    refine Au [] [] _ _ _ ?_
    have w2:IntKind.i64.wrap ((j:Int)+1)=((j+1:Nat):Int):=by rw[wrap_i64 (by omega) (by omega)];rfl
    cases hy:sa[j]? with
    |none=>
     have k2:=List.getElem?_eq_none_iff.1 hy
     have k1:=BG k2
     simp only[↓eB,seval,go_sem,iD,k1]
     refine A0 [] ?_;simp only[↓eB,seval,go_sem,bne,K0]
    |some y=>
     have hlt:=(List.getElem?_eq_some_iff.1 hy).1
     have k1:=BF hlt
     have hjl:(j:Int)<(sa.length:Int):=by omega
     have hz:=uH hy
     have hyl:=h3 y (List.mem_of_getElem? hy)
     obtain⟨ys,yl⟩:=y
     dsimp only at hyl
     simp only[↓eB,seval,go_sem,iD,k1,hz,bne_self_eq_false,beq_self_eq_true]
     refine⟨hjl,hjl,hjl,hjl,Cs (by kernel_rfl),?_⟩
     refine Ab (Y:=Nat) (fun k=>k≤yl.length)
      (fun k=>⟨[(2,true,.one (.p 2 0 0)),(3,true,.one (.p 3 0 0)),(6,true,.one (.v (.int .i64 (j:Int)))),(7,true,.one (.v (.int .i64 (k:Int))))],[(2,.vec 0 [.v (.bool false),.v (.bool false)] [[.d (.sl IX (sc.map Nb.r)),.d (.sl IY (sa.map Na.r))]]),(3,.vec 0 [.v (.bool false),.v (.bool false)] [[.d (.sl IX (sc.map Nb.r)),.d (.sl IY (sa.map Na.r))]])]⟩)
      (fun k=>yl.length-k) 0 (Nat.zero_le _) ?_ ?_
     ·refine A4 [] ?_;simp only[↓eB,seval,go_sem,iD]
     ·rintro k hk
      refine Au [] [] _ _ _ ?_
      have w3:IntKind.i64.wrap ((k:Int)+1)=((k+1:Nat):Int):=by rw[wrap_i64 (by omega) (by omega)];rfl
      cases hq:yl[k]? with
      |none=>
       have q2:=List.getElem?_eq_none_iff.1 hq
       have q1:=BG q2
       simp only[↓eB,seval,go_sem,iD,hz,q1,w2]
       refine⟨hjl,j+1,hlt,(by omega),?_⟩
       refine A4 [] ?_;simp only[↓eB,seval,go_sem,iD]
      |some q=>
       have hqlt:=(List.getElem?_eq_some_iff.1 hq).1
       have q1:=BF hqlt
       have hkl:(k:Int)<(yl.length:Int):=by omega
       have hzq:=A0k hq
       simp only[↓eB,seval,go_sem,iD,hz,hzq,q1,w3,bne_self_eq_false]
       refine⟨hjl,hjl,hkl,hjl,hkl,Cs (by kernel_rfl),k+1,hqlt,(by omega),?_⟩
       refine A4 [] ?_;simp only[↓eB,seval,go_sem,iD]
noncomputable def Vi {X:Ctx} {w0:World}:Sy.Spec Try.prog X w0:=DD 21 Try.call21 Qc (fun p:(Sta)×(Sta)×Unit=>Vh p.1 p.2.1) (fun p:(Sta)×(Sta)×Unit=>K0 p.1 p.2.1) cT gK
abbrev TN (a:Ou) (b:Ou):Prop:=a=b∧a.s.cs.length≤1000000∧a.s.ar.length≤1000000∧∀x∈a.s.ar,x.l.length≤1000000000
abbrev Iz (a:Ou) (b:Ou):SV:=.one (.v (.bool true))
noncomputable abbrev Pi:ArgC ((Ou)×(Ou)×Unit):=(acS (cOu) (acS (cOu) ac0))
abbrev aL:Prop:=Cc Try.prog 18 Pi (fun p:(Ou)×(Ou)×Unit=>TN p.1 p.2.1) (fun p:(Ou)×(Ou)×Unit=>Iz p.1 p.2.1)
theorem aM:∀p:(Ou)×(Ou)×Unit,((fun p:(Ou)×(Ou)×Unit=>Iz p.1 p.2.1) p).names=[]:=by intro p;rfl
theorem cU:aL:=by
 rintro ⟨a,b,_u⟩ w fz xs hc hfz hl hx
 refine Bj Try.func18 rfl w fz [Vi] [] Pi (fun p:(Ou)×(Ou)×Unit=>Iz p.1 p.2.1) _ xs hfz hl hx (jN rfl) ?_
 clear hx hl hfz xs
 simp only[Try.f18]
 dsimp only at hc
 obtain⟨h0,h1,h2,h3⟩:=hc
 subst h0
 obtain⟨e,v,f,al,k,sc,sa⟩:=a
 dsimp only at h1 h2 h3
 simp only[↓eB,seval,go_sem,Vi,iD,bne_self_eq_false,beq_self_eq_true]
 refine⟨⟨rfl,h1,h2,h3⟩,?_⟩
 refine A0 [] ?_;simp only[↓eB,seval,go_sem,bne,Iz,K0]
noncomputable def TO {X:Ctx} {w0:World}:Sy.Spec Try.prog X w0:=DD 18 Try.call18 Pi (fun p:(Ou)×(Ou)×Unit=>TN p.1 p.2.1) (fun p:(Ou)×(Ou)×Unit=>Iz p.1 p.2.1) aM cU
end Go.Proofs.Ytjnnmindcbgjhaa
namespace Go.Proofs.Ytjnnmindcbgjhaa
open Go Go.Sy Go.RowKit
theorem gL (p:List (List UInt8)) (s:List Nb):(stCs p s).length=p.length:=by simp[stCs,blC]
theorem uI (p:List Gy) (s:List Na):(stA p s).length=p.length:=by simp[stA,blA]
abbrev SM (pc:List (List UInt8)) (pa:List Gy) (pf:List Fn):Ch:=.vec 0 [.v (.bool false),.v (.bool false),.v (.bool false)] [[.d (.sl HC (pc.map cSd)),.d (.sl HD (pa.map Gy.r)),.d (.sl zFn (pf.map Fn.r))]]
end Go.Proofs.Ytjnnmindcbgjhaa
namespace Go.Proofs.Ytjnnmindcbgjhaa
open Go Go.Sy Go.RowKit
end Go.Proofs.Ytjnnmindcbgjhaa
namespace Go.Proofs.Ytjnnmindcbgjhaa
open Go Go.Sy Go.RowKit
noncomputable def rI6:RowC Int:=rowOf zIw iD XH fun _=>rfl
theorem A0l:rI6.e=iD:=rfl
theorem A0m:rI6.z=zIw:=rfl
theorem A0n (n:Int):rI6.d [.v (.int .i64 n)]=some n:=rI6.i n
theorem uJ:zIw.length=1:=rfl
theorem mW (l:List Int):OO rI6.d (l.map iD)=some l:=QK rI6 l
theorem uK (s t:List UInt8) (n x y:Int):cSta.d (.agg [.d (.sl [.v (.string (bs [])),.v (.int .i64 0)] [[.v (.string (bs s)),.v (.int .i64 n)]]),.d (.sl [.v (.string (bs [])),.v (.slice none 0 0)] [[.v (.string (bs t)),.sl [.v (.int .i64 0)] [[.v (.int .i64 x)],[.v (.int .i64 y)]]]])])=some ⟨[⟨s,n⟩],[⟨t,[x,y]⟩]⟩:=PI [⟨s,n⟩] [⟨t,[x,y]⟩]
theorem A0o (s t f:List UInt8) (n x y e v al k:Int):cOu.d (.agg [.v (.int .i64 e),.v (.int .i64 v),.v (.string (bs f)),.v (.int .i64 al),.v (.int .i64 k),.d (.sl [.v (.string (bs [])),.v (.int .i64 0)] [[.v (.string (bs s)),.v (.int .i64 n)]]),.d (.sl [.v (.string (bs [])),.v (.slice none 0 0)] [[.v (.string (bs t)),.sl [.v (.int .i64 0)] [[.v (.int .i64 x)],[.v (.int .i64 y)]]]])])=some ⟨e,v,f,al,k,⟨[⟨s,n⟩],[⟨t,[x,y]⟩]⟩⟩:=aK e v al k f [⟨s,n⟩] [⟨t,[x,y]⟩]
def aP:Pg:=⟨⟨[[99]],[⟨[116],2⟩]⟩,[⟨[102],[⟨[120],false⟩],[],[(.mk 0 [99] [] (.mk 2 0 [] (.mk 4 0 [] (.mk 1 0 [99] .nil .nil) (.mk 0 3 [] .nil .nil)) (.mk 1 0 [120] .nil .nil)) .nil .nil [] [] [] 0),(.mk 6 [120] [116] (.mk 0 1 [] .nil .nil) .nil .nil [] [] [] 1),(.mk 7 [] [116] (.mk 0 0 [] .nil .nil) (.mk 1 0 [120] .nil .nil) .nil [] [] [] 2),(.mk 7 [] [116] (.mk 0 1 [] .nil .nil) (.mk 1 0 [99] .nil .nil) .nil [] [] [] 3),(.mk 9 [] [] (.mk 1 0 [99] .nil .nil) .nil .nil [] [] [] 4)]⟩]⟩
structure agS (a:Sta) (B x y:Int):Prop where
 c:stCs aP.g.c a.cs=[⟨[99],B⟩]
 a:stA aP.g.a a.ar=[⟨[116],[x,y]⟩]
end Go.Proofs.Ytjnnmindcbgjhaa
namespace Go.Proofs.Ytjnnmindcbgjhaa
open Go Go.Sy Go.RowKit Go.ChangeShapes Go.WideShapes Go.ChangeAt
section
variable {H:Type} {enc:TypeId×Value→H} {W:World}
theorem gM (fuel:Nat):O9 enc Try.prog W 23 fuel (fun l:List Int=>[.sl zIw (l.map iD)]) (fun l=>l.length≤maxLen∧∀x∈l,V5 x):=by
 cases fuel with
 |zero=>exact Qb
 |succ n=>exact Wy id _ _ (Ph Try.underlying23 zIw (by kernel_rfl) (by decide) (Wz Try.underlying2)) (fun _=>rfl) (fun _ h=>⟨h.1,fun x hx=>ZX (h.2 x hx)⟩)
variable {base:Nat} {v:Value} {d:DataW H} {p:List MemPlace}
theorem cV (hv:Value.okWide Try.prog W .any base 23 v) (h:DataW.Trod enc Try.prog W 0 (fun _=>true) true 23 v d p) :
  ∃l:List Int,(l.length≤maxLen∧∀x∈l,V5 x)∧CD (hp W) (fun b=>b<W.heap.size) (.one (.d (.sl zIw (l.map iD)))) v:=X0 (f:=fun l:List Int=>D.sl zIw (l.map iD)) (r:=.any) (base:=base) (Vg Try.underlying23 hv) h gM
end
end Go.Proofs.Ytjnnmindcbgjhaa
namespace Go.Proofs.Ytjnnmindcbgjhaa
open Go Go.Sy Go.RowKit
def OA:List C:=[.v (.bool false),.v (.int .i64 0),.v (.string (bs []))]
theorem uL (l:List Va):List.flatMap (fun r=>List.flatMap C.names r) (l.map Va.c)=[]:=List.flatMap_eq_nil_iff.2 fun p hp=>by
 obtain⟨a,_,rfl⟩:=List.mem_map.1 hp
 rfl
theorem A0p (k t:Nat) (l:List Va):(l.map Va.c).map (fun r=>r.map (mvC k t))=l.map Va.c:=Gw Va.c (fun _=>rfl) l
theorem uM (l:List Va):DM (l.map Va.c)=some (l.map Va.r):=GX Va.c (fun _=>rfl) l
noncomputable def cI6:Cod (List Int):=GZ (fun l=>.one (.d (.sl zIw (l.map iD)))) (fun v a b h h'=>by
 cases v with
 |one c=>exact Ay XH (Ez h h')
 |agg l=>exact h.elim
 |tup l=>exact h.elim) (fun l=>rfl)
theorem kR (l:List Int):cI6.e l= .one (.d (.sl zIw (l.map iD))):=rfl
theorem kS (l:List Int):cI6.d (.one (.d (.sl zIw (l.map iD))))=some l:=D7 (e:=fun l:List Int=>.one (.d (.sl zIw (l.map iD)))) (Do _)
def A6H (P:Pg):List Va:=⟨true,0,[]⟩::P.g.c.map fun c=>⟨true,0,c⟩
def A0q (l:List Int):List Va:=if (l.length:Int)==0 then [⟨false,0,[]⟩] else l.map fun n=>⟨false,n,[]⟩
end Go.Proofs.Ytjnnmindcbgjhaa
namespace Go.Proofs.Ytjnnmindcbgjhaa
open Go Go.Sy Go.RowKit
def fnd (f:List UInt8):List Fn→Option Fn
 |[]=>none
 |g::r=>if (g.name==f)=true then some g else fnd f r
def A6I (P:Pg) (l:List Int) (v:Vr):List Va:=if v.p=true then A6H P else A0q l
def gN (P:Pg) (f:List UInt8) (l:List Int):List (List Va):=match fnd f P.fs with
 |some g=>g.ps.map (A6I P l)
 |none=>[]
theorem uN {l:List Vr} {i:Nat} {x:Vr} (h:l[i]?=some x) (z:List D):(l.map Vr.r).getD i z=x.r:=by simp[List.getD,h]
theorem uO {l:List Fn} {i:Nat} {x:Fn} (h:l[i]?=some x) (z:List D):(l.map Fn.r).getD i z=x.r:=by simp[List.getD,h]
end Go.Proofs.Ytjnnmindcbgjhaa
namespace Go.Proofs.Ytjnnmindcbgjhaa
open Go Go.Sy Go.RowKit
def pkR:List (List Va)→Int→List Va×Int
 |[],n=>([],n)
 |c::r,n=>(c.getD ((pkR r n).2.tmod (c.length:Int)).toNat va0::(pkR r n).1,(pkR r n).2.tdiv (c.length:Int))
def pkF (l:List (List Va)) (n:Int):List Va:=(pkR l n).1
end Go.Proofs.Ytjnnmindcbgjhaa
namespace Go.Proofs.Ytjnnmindcbgjhaa
open Go Go.Sy Go.RowKit
theorem Yy {f:List UInt8} {g:Fn}:∀{l:List Fn},fnd f l=some g→g∈l
 |x::r,h=>by
  simp only[fnd]at h
  split at h
  ·rw[Option.some.inj h];exact List.mem_cons_self ..
  ·exact List.mem_cons_of_mem _ (Yy h)
theorem gO {P:Pg} {f:List UInt8} {l:List Int} (h:∀g∈P.fs,g.ps.length≤5000):(gN P f l).length≤5000:=by
 unfold gN
 cases hf:fnd f P.fs with
 |none=>exact Nat.zero_le _
 |some g=>dsimp only;rw[List.length_map];exact h g (Yy hf)
theorem mY (l:List (List Va)) (n:Int):(pkF l n).length=l.length:=by
 unfold pkF
 induction l with
 |nil=>rfl
 |cons c r ih=>show (pkR r n).1.length+1=_;rw[ih];rfl
def blS (P:Pg):Sta:=⟨blC P.g.c,blA P.g.a⟩
structure okW (N n:Nat) (P:Pg) (l:List Int) (fuel:Int):Prop where
 p:okPg N P
 c:P.g.c.length≤1000000
 a:P.g.a.length≤1000000
 q:∀x∈P.g.a,1≤x.n∧x.n≤1048576
 i:l.length≤1000000
 f:fuel<n
 n:n≤1000000000
theorem okW.ps {N n:Nat} {P:Pg} {l:List Int} {fuel:Int} (h:okW N n P l fuel):∀g∈P.fs,g.ps.length≤5000:=fun g hg=>(h.p.f g hg).1.1
theorem okW.r {N n:Nat} {P:Pg} {l:List Int} {fuel:Int} (h:okW N n P l fuel) (f:List UInt8) (i:Int):okR N n P (pkF (gN P f l) i) (blS P) fuel:=
 ⟨h.p,h.c,h.a,h.q,by simp[blS,blC];exact h.c,by simp[blS,blA];exact h.a,by rw[mY];exact gO h.ps,h.f,h.n⟩
end Go.Proofs.Ytjnnmindcbgjhaa
namespace Go.Proofs.Ytjnnmindcbgjhaa
open Go Go.Sy Go.RowKit
end Go.Proofs.Ytjnnmindcbgjhaa
