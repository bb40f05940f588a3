/- RunRaw and RunCalls, walked. Conditions: those of the parameters' types. -/
import Derived.Test.YtapedeoheilnnaaGreatRu1
import Derived.Test.YtapedeoheilnnaaGreatZu1
import Derived.Test.YtapedeoheilnnaaGreatWl
import Derived.Test.YtapedeoheilnnaaGreatRows
import Derived.Test.YtapedeoheilnnaaGreatRml
import Derived.Lib.SmallJoins
import Derived.Carry
import Derived.Test.YtapedeoheilnnaaGreatRst
import Derived.Test.YtapedeoheilnnaaGreatMk5
set_option linter.all false
set_option maxRecDepth 100000
set_option maxHeartbeats 16000000
open Nat (zero_le)
namespace Go.Proofs.YtapedeoheilnnaaGreat
open Go Go.Sy Go.RowKit
variable{N n:Nat}{P:Pg}{fuel:Int}{f:List UInt8}{l:List Int}
noncomputable def rI6:RowC Int:=rowOf zIw iD aD λ_=>rfl
theorem A31:rI6.e=iD:=rfl
theorem A32:rI6.z=zIw:=rfl
theorem y8:zIw.length=1:=rfl
noncomputable section
end
open Go Go.Sy Go.RowKit
theorem B1g(h:okW N n P l fuel):A9v n P f fuel l=A9k (B0J n P f fuel l) (tsF P f l).length 0/\∀(i:Nat) x,(tsF P f l)[i]?=some x->pkF (canF P f l) (i:Int)=x:=by
 have hne:=B0I (f:=f) h.c h.i
 cases hf:(fnd f P.fs).isSome with
 |false=>rw[B1N hf];exact⟨if_neg (by rw[hf];decide),λi x hx=>by simp at hx⟩
 |true=>
 obtain⟨h1,h2⟩:=B14 hne hf
 refine⟨?_,λi x hx=>?_⟩
 .unfold A9v;rw[if_pos hf,<- h1,Int.toNat_natCast]
 have hi:=(List.getElem?_eq_some_iff.1 hx).1
 rw[<- h2 i hi,List.getD_eq_getElem?_getD,hx];rfl
theorem B1h(h:okW N n P l fuel):B0A P f l=((tsF P f l).length:Int):=by
 unfold B0A
 cases hf:(fnd f P.fs).isSome with
 |false=>rw[B1N hf];rfl
 |true=>rw[(B14 (B0I (f:=f) h.c h.i) hf).1];rfl
theorem B1q(P:Pg)(f:List UInt8)(l:List Int):(tsF P f l).length<=2000:=by
 unfold tsF
 split
 .exact(B17 ..).1
 exact zero_le _
theorem B1r{va:List Va}{s:Sta}(h:okR N n P va s fuel):okR N n P va ⟨[],[]⟩ fuel:=
 ⟨h.p,h.c,h.a,h.l,zero_le _,zero_le _,h.v,h.f,h.n⟩
theorem B1G(h:okW N n P l fuel)(h2:fuel<=1000000){r:List Va×Ms×Bool}(hr:x6 n P f fuel l=r):
  r.1.length<=5000/\r.2.1.cs.length<=1000000/\r.2.1.ar.length<=1000000/\∀x∈r.2.1.ar,x.l.length<=1000000000:=by
 rw[<- hr]
 unfold x6
 cases A9v n P f fuel l with
 |none=>exact⟨zero_le _,zero_le _,zero_le _,λx hx=>by cases hx⟩
 |some i=>exact⟨(h.r f i).v,sd (h.r f i) h2⟩
abbrev B0P(N:Nat)(n:Nat)(p:Pg)(f:List UInt8)(fuel:Int)(l:List Int):Prop:=okW N n p l fuel/\Ii p/\l.length<=2000
abbrev A9s(N:Nat)(n:Nat)(p:Pg)(f:List UInt8)(fuel:Int)(l:List Int):SV:=.tup [.inl (.d (.sl IQ ((x6 n p f fuel l).1.map Va.r))),.inr (ouC (x6 n p f fuel l).2.1),.inl (.v (.bool (x6 n p f fuel l).2.2))]
noncomputable abbrev B06:ArgC ((Pg)×(List UInt8)×(Int)×(List Int)×Unit):=(acS (cPg) (acS (cStr) (acS (cInt .i64) (acS (cI6) ac0))))
abbrev B0Q(N:Nat)(n:Nat):Prop:=Ca Tryz.prog 21 B06 (λp:(Pg)×(List UInt8)×(Int)×(List Int)×Unit=>B0P N n p.1 p.2.1 p.2.2.1 p.2.2.2.1) (λp:(Pg)×(List UInt8)×(Int)×(List Int)×Unit=>A9s N n p.1 p.2.1 p.2.2.1 p.2.2.2.1)
noncomputable def B0R{X:Ctx}{w0:World}(N:Nat)(n:Nat)(h:B0Q N n):Sy.Spec Tryz.prog X w0:=Dq 21 Tryz.call21 B06 _ _ KF2 h
section
attribute [local go_sem] Ae Ad
attribute[local go_sem] rM rL GM GL MX MW jy ouC pgR stR in
theorem B1H(N:Nat)(n:Nat):B0Q N n:=by
 rintro ⟨p,f,fuel,l,_u⟩ w fz xs hc hfz hl hx
 refine Bg Tryz.func21 rfl w fz [A9d,(YR N n (mf N n))] [] B06 (λp:(Pg)×(List UInt8)×(Int)×(List Int)×Unit=>A9s N n p.1 p.2.1 p.2.2.1 p.2.2.2.1) _ xs hfz hl hx (jN rfl) ?_
 clear hx hl hfz xs
 simp only[Tryz.f21]
 obtain⟨⟨pc,pa⟩,pf⟩:=p
 obtain⟨hw,hG,hl2⟩:=hc
 have hw:okW N n ⟨⟨pc,pa⟩,pf⟩ l fuel:=hw
 have hl2:l.length<=2000:=hl2
 have hts:B07 ⟨⟨pc,pa⟩,pf⟩ f l:=⟨hw.c,hl2,hw.p.l,hw.ps⟩
 have hT2:=B1q ⟨⟨pc,pa⟩,pf⟩ f l
 obtain⟨hfr,hpk⟩:=B1g (f:=f) hw
 obtain⟨ts,hte⟩:∃ts,tsF ⟨⟨pc,pa⟩,pf⟩ f l=ts:=⟨_,rfl⟩
 rw[hte]at hT2 hfr hpk
 simp only[seval,go_sem,A9d,wq,YR,YO,hte]
 refine⟨hts,?_⟩
 obtain⟨g,hg⟩:∃g,B0J n ⟨⟨pc,pa⟩,pf⟩ f fuel l=g:=⟨_,rfl⟩
 rw[hg]at hfr
 refine AC (Y:=Nat) (λi=>i<=ts.length/\A9k g (ts.length-i) i=A9k g ts.length 0)
  (λi=>⟨[(1,true,.one (.v (.string (bs f)))),(2,true,.one (.v (.int .i64 fuel))),(4,true,.one (.p 4 0 0)),(8,true,.one (.v (.slice none 0 0))),(9,true,.one (.p 9 0 0)),(10,true,.one (.v (.bool false))),(11,true,.one (.d (.sl v5 (ts.map nF)))),(12,true,.one (.v (.int .i64 (i:Int))))],
   [(4,Gb pc pa pf),(9,.vec 0 A9z [ouZ])]⟩)
  (λi=>ts.length-i) 0 ⟨zero_le _,rfl⟩ ?_ ?_
 .refine A2 [] ?_;simp only[seval,go_sem,A9z,ouZ]
 rintro i ⟨hi,hI⟩
 refine AP [A9d,YR N n (mf N n)] [] _ _ _ ?_
 have w1:IntKind.i64.wrap ((i:Int)+1)=((i+1:Nat):Int):=by rw[wrap_i64 (by omega) (by omega)];rfl
 cases hx:ts[i]? with
 |none=>
  have g2:=List.getElem?_eq_none_iff.1 hx
  have g1:=Ai g2
  have hr:x6 n ⟨⟨pc,pa⟩,pf⟩ f fuel l=([],B05,false):=by
   have h2:A9v n ⟨⟨pc,pa⟩,pf⟩ f fuel l=none:=by rw[hfr,<- hI,show ts.length-i=0 by omega];rfl
   unfold x6;rw[h2]
  simp only[seval,go_sem,A9d,wq,YR,YO,g1,A9z,ouZ]
  refine A1 [] ?_;simp only[seval,go_sem,bne,A9s,hr,B05]
 |some x=>
 have hlt:=(List.getElem?_eq_some_iff.1 hx).1
 have g1:=Ah hlt
 have hil:(i:Int)<(ts.length:Int):=by omega
 have hz:=B0G hx
 have hp:=hpk i x hx
 have hok:iY N n ⟨⟨pc,pa⟩,pf⟩ f x ⟨[],[]⟩ fuel:=⟨by rw[<- hp];exact B1r (hw.r f i),hG⟩
 obtain⟨r,hr1⟩:∃r,ts.length-i=r+1:=⟨ts.length-i-1,by omega⟩
 rw[hr1]at hI
 obtain⟨m,hm⟩:∃m,g i=m:=⟨_,rfl⟩
 have hgm:clF n ⟨⟨pc,pa⟩,pf⟩ f x ⟨[],[]⟩ fuel=m:=by rw[B1w,<- hm,<- hg,<- hp];rfl
 cases he:(m.e==1) with
 |true=>
  have hr:x6 n ⟨⟨pc,pa⟩,pf⟩ f fuel l=(x,m,true):=by
   have h2:A9k g (r+1) i=some i:=if_pos (by rw[hm];exact he)
   have h3:A9v n ⟨⟨pc,pa⟩,pf⟩ f fuel l=some i:=hfr.trans (hI.symm.trans h2)
   unfold x6;rw[h3];dsimp only;rw[hg,hm,hp]
  simp only[seval,go_sem,A9d,wq,YR,YO,g1,hz,hgm,he,A9z,ouZ]
  refine⟨⟨hil,rfl⟩,hok,Bn (by kernel_rfl),⟨hil,rfl⟩,Bn (by kernel_rfl),?_⟩
  refine A1 [] ?_;simp only[seval,go_sem,bne,A9s,hr]
 |false=>
 have hI2:A9k g r (i+1)=A9k g ts.length 0:=by
  rw[<- hI];exact(if_neg (by rw[hm,he];decide)).symm
 simp only[seval,go_sem,A9d,wq,YR,YO,g1,hz,hgm,he,w1,A9z,ouZ]
 refine⟨⟨hil,rfl⟩,hok,Bn (by kernel_rfl),i+1,⟨hlt,(by rw[show ts.length-(i+1)=r by omega];exact hI2)⟩,(by omega),?_⟩
 exact N4
abbrev B1W(x:List Va)(y:List Va):Prop:=x=y/\x.length<=1000000
abbrev B09(x:List Va)(y:List Va):SV:=.one (.v (.bool true))
noncomputable abbrev B0L:ArgC ((List Va)×(List Va)×Unit):=(acS (Mr) (acS (Mr) ac0))
abbrev B1X:Prop:=Ca Tryz.prog 22 B0L (λp:(List Va)×(List Va)×Unit=>B1W p.1 p.2.1) (λp:(List Va)×(List Va)×Unit=>B09 p.1 p.2.1)
theorem B1i:B1X:=by
 rintro ⟨x,y,_u⟩ w fz xs hc hfz hl hx
 refine Bg Tryz.func22 rfl w fz [] [] B0L (λp:(List Va)×(List Va)×Unit=>B09 p.1 p.2.1) _ xs hfz hl hx (jN rfl) ?_
 clear hx hl hfz xs
 simp only[Tryz.f22]
 obtain⟨hxy,h1⟩:=hc
 have hxy:x=y:=hxy
 have h1:x.length<=1000000:=h1
 subst hxy
 simp only[seval,go_sem,bne_self_eq_false]
 refine AC (Y:=Nat) (λi=>i<=x.length)
  (λi=>⟨[(0,true,.one (.d (.sl IQ (x.map Va.r)))),(1,true,.one (.d (.sl IQ (x.map Va.r)))),(5,true,.one (.v (.int .i64 (i:Int))))],[]⟩)
  (λi=>x.length-i) 0 (zero_le _) ?_ ?_
 .exact N4
 rintro i hi
 refine AP [] [] _ _ _ ?_
 have w1:IntKind.i64.wrap ((i:Int)+1)=((i+1:Nat):Int):=by rw[wrap_i64 (by omega) (by omega)];rfl
 cases hv:x[i]? with
 |none=>
  have g1:=Ai (List.getElem?_eq_none_iff.1 hv)
  simp only[seval,go_sem,g1]
  refine A1 [] ?_;simp only[seval,go_sem,bne,B09]
 |some v=>
 have hlt:=(List.getElem?_eq_some_iff.1 hv).1
 have g1:=Ah hlt
 have hil:(i:Int)<(x.length:Int):=by omega
 have hz:=B15 hv
 simp only[seval,go_sem,g1,hz,w1,Va.r,bne_self_eq_false,beq_self_eq_true]
 refine⟨hil,hil,Bn (by kernel_rfl),i+1,hlt,(by omega),?_⟩
 exact N4
noncomputable def B0e{X:Ctx}{w0:World}:Sy.Spec Tryz.prog X w0:=Dq 22 Tryz.call22 B0L _ _ KF2 B1i
noncomputable section
abbrev B0H(g:Int)(l:List (List Int))(k:Int)(ns:List Int)(fu:Int):Prop:=u8R g/\(l.length<=maxLen/\∀x∈l,x.length<=maxLen/\∀y∈x,u8R y)/\Uo k/\(ns.length<=maxLen/\∀x∈ns,Uo x)/\Uo fu
abbrev w5(g:Int)(l:List (List Int))(k:Int)(ns:List Int)(fu:Int):Value:=Value.bool true
attribute[local go_sem] Ou.c ZE ZD rM B0t rL rJ rI GM GL cSl MX MW jy iD ouC pgR pqR A31 A32 stR B01 mP B0R B00 aQ Fo W3 YL B0F B0e A9d A9o A9p Lr It N5 Oy A9u B09 A9s wq y8 in
theorem B0M:Mg Tryz.prog 5 (ahS ((cInt .u8).H) (ahS (cBl.H) (ahS ((cInt .i64).H) (ahS (cSl rI6) (ahS ((cInt .i64).H) ah0))))) (λp:(Int×(List (List Int)×(Int×(List Int×(Int×Unit)))))=>B0H p.1 p.2.1 p.2.2.1 p.2.2.2.1 p.2.2.2.2.1) (λp:(Int×(List (List Int)×(Int×(List Int×(Int×Unit)))))=>ofV (w5 p.1 p.2.1 p.2.2.1 p.2.2.2.1 p.2.2.2.2.1)):=by
 rintro ⟨g,l,k,ns,fu,_u⟩ w fz xs hc hfz hl hx
 refine Jr Tryz.func5 rfl w fz [B0F,aQ,(mP (suN g l) (suM g l) (wgl g) (A6n (suN g l) (suM g l) (wgl g))),YL,Fo,(B01 (suN g l) 1000 (B0c (suN g l) 1000)),(B0R (suN g l) 1000 (B1H (suN g l) 1000)),B0e,W3,B00,A9d] [] (ahS ((cInt .u8).H) (ahS (cBl.H) (ahS ((cInt .i64).H) (ahS (cSl rI6) (ahS ((cInt .i64).H) ah0))))) (λp:(Int×(List (List Int)×(Int×(List Int×(Int×Unit)))))=>ofV (w5 p.1 p.2.1 p.2.2.1 p.2.2.2.1 p.2.2.2.2.1)) _ xs hfz hl hx (jN rfl) ?_
 clear hx hl hfz xs
 simp only[Tryz.f5]
 obtain⟨⟨g0,g1⟩,⟨l0,l1⟩,⟨k0,k1⟩,⟨n0,n1⟩,⟨u0,u1⟩⟩:=hc
 dsimp only at g0 g1 l0 l1 k0 k1 n0 n1 u0 u1
 cases hL:ltF l 60 with
 |false=>
  simp only[seval,go_sem,hL]
  refine⟨l0,?_⟩
  refine A1 [] ?_;simp only[seval,go_sem,bne,w5]
 |true=>
 cases h5:decide (5<(ns.length:Int)) with
 |true=>
  simp only[seval,go_sem,hL,h5]
  refine⟨l0,?_⟩
  refine A1 [] ?_;simp only[seval,go_sem,bne,w5]
 |false=>
 obtain⟨lk1,lk2⟩:=A08 (by decide) hL l1
 have hu:=A4e g l
 have hU:mN (suN g l) (suM g l) (wgl g) g l:=⟨⟨g0,by show l.length<=1000000;omega,lk2⟩,hu⟩
 have hG:=pv (m:=suM g l) (g:=g) (l:=l)
 have hp4:=iU k (n:=4) (by decide) (by decide)
 have hp5:=iU fu (n:=60) (by decide) (by decide)
 obtain⟨pk,hpk⟩:∃pk,plG k 4=pk:=⟨_,rfl⟩
 obtain⟨pf,hpf⟩:∃pf,plG fu 60=pf:=⟨_,rfl⟩
 rw[hpk]at hp4
 rw[hpf]at hp5
 have h5':¬(5:Int)<(ns.length:Int):=of_decide_eq_false h5
 have hR:=A6q (s:=⟨[],[]⟩) (va:=[]) (fuel:=pf) (k:=1000) hu (zero_le _) (zero_le _) (zero_le _) (by omega) (by decide)
 obtain⟨P,hPe⟩:∃P,sPg (suM g l) (wgl g) g l=P:=⟨_,rfl⟩
 rw[hPe]at hG hR
 have hW:okW (suN g l) 1000 P ns pf:=⟨hR.p,hR.c,hR.a,hR.l,by omega,hR.f,hR.n⟩
 obtain⟨r,hr⟩:∃r,x6 1000 P (nmS pk) pf ns=r:=⟨_,rfl⟩
 obtain⟨f1,f2⟩:=B1G hW (by omega) hr
 have hct:=B1h (f:=nmS pk) hW
 have hC:B0B P (nmS pk) ns:=⟨hR.c,by omega,hR.p.l,hW.ps⟩
 have hT:B07 P (nmS pk) ns:=⟨hR.c,by omega,hR.p.l,hW.ps⟩
 have hZ:B0P (suN g l) 1000 P (nmS pk) pf ns:=⟨hW,hG,by omega⟩
 simp only[seval,go_sem,hL,h5,hpk,hpf,hPe,Dz,hr,hct,beq_self_eq_true]
 refine⟨l0,hU,⟨(by show (1:Int)<=4;decide),(by show (4:Int)<=1000000;decide)⟩,hp4.1,⟨(by show (1:Int)<=60;decide),(by show (60:Int)<=1000000;decide)⟩,hW,hZ,⟨rfl,(by show r.1.length<=1000000;omega)⟩,⟨rfl,f2⟩,hC,hT,Bn (by kernel_rfl),?_⟩
 refine A1 [] ?_;simp only[seval,go_sem,bne,w5]
end
end
open Go Go.Sy Go.RowKit Go.ChangeShapes Go.WideShapes Go.ChangeAt
theorem A7q:ownKnob Tryz.prog.godebug=none:=by kernel_rfl
theorem A4Y:laidOutB Tryz.prog=true:=by kernel_rfl
theorem S5{H:Type}{enc:TypeId×Value->H}{P:Program}(hl:laidOutB P=true){W W':World}(hb:Below W.heap.size W W'):∀(ts:List TypeId) (vs:List Value) (ds:List (DataW H)) (ps:List MemPlace),
  (∀t∈ts,P.readableRec t=true/\t<P.types.size)->DataW.TrodAll enc P W 0 (λ_=>true) true ts vs ds ps->(∀x∈ps,x.block<W.heap.size)->DataW.TrodAll enc P W' 0 (λb=>decide (b<W.heap.size)) true ts vs ds ps
 |[],vs,ds,ps,_,h,_=>by
  obtain⟨rfl,rfl,rfl⟩:=trodAll_nil h
  exact trodAll_mk0
 |t::ts,vs,ds,ps,hts,h,hlt=>by
  obtain⟨v,vs',d,ds',p,q,rfl,rfl,rfl,h1,h2⟩:=trodAll_cons h
  have ht:=hts t (List.mem_cons_self ..)
  exact trodAll_cons_mk (Below.trod hl ht.1 ht.2 h1 hb λx hx=>hlt x (List.mem_append_left _ hx))
   (S5 hl hb ts vs' ds' q (λt' ht'=>hts t' (List.mem_cons_of_mem _ ht')) h2 λx hx=>hlt x (List.mem_append_right _ hx))
theorem oE{H:Type}{enc:TypeId×Value->H}{f:Func}{s:ChangeSpec}{W W':World}{args:Array Value}{ds gs:List (DataW H)}{before:List MemPlace}(hW:DataW.Whole enc Tryz.prog f.params.toList s.vars false W args.toList ds gs before)
  (hv:s.vars=[]) (hr:f.resultTypes = #[4]) (hts:∀t∈f.params.toList,Tryz.prog.readableRec t=true/\t<Tryz.prog.types.size)
  (hf:gs=[]->(s.fn H (ds++gs)).results=[.lit (.bool true)]/\(s.fn H (ds++gs)).args=ds/\(s.fn H (ds++gs)).vars=[]) (hb:Below W.heap.size W W') :
  s.post enc Tryz.prog f false true false false W args (.bool true) W':=by
 have hlt:=hW.lt
 have hW0:=hW
 obtain⟨p,q,hA,hV,rfl,_,_⟩:=hW
 rw[hv]at hV
 obtain⟨rfl,rfl⟩:=trodVars_none hV
 obtain⟨f1,f2,f3⟩:=hf rfl
 refine⟨ds,[],p++[],[],p,[],hW0,?_,?_,?_,hb.frame _,λh=>by cases h⟩
 .rw[f1,hr]
  exact trodAll_cons_mk (shut_bool Tryz.underlying4 true) trodAll_mk0
 .rw[f2]
  exact S5 A4Y hb _ _ _ _ hts hA λx hx=>by simpa using hlt x (List.mem_append_left _ hx)
 .rw[f3,hv];rfl
theorem kD{P:Program}{f:FuncId}{A:Type}{ac:ArgH A}{Cd:A->Prop}{F:A->SV}(h:Mg P f ac Cd F)(a:A)(w:World)(hc:Cd a)(vals:List Value)(val:Value)(hl:vals.length=(ac.e a).length)
  (h1:∀(j:Nat) (v:SV) (x:Value),(ac.e a)[j]?=some v->vals[j]?=some x->CD (hp w) (λb=>b<w.heap.size) v x)
  (h2:OU (F a)=some val):Calls P f vals.toArray w (λe w'=>e= .returned val/\Below w.heap.size w w'):=by
 refine(h a w (λb=>b<w.heap.size) vals hc (λ_ h=>h) hl h1).mono ?_
 rintro e w' ⟨v,x,fz',rfl,rfl,g1,g2,g3,g4,g5,g6⟩
 rw[Gq g5 h2]
 exact⟨rfl,g6⟩
section
variable {H:Type}{enc:TypeId×Value->H}{W:World}{base:Nat}{v:Value}{d:DataW H}{p:List MemPlace}
theorem Xe{n:Int}(h:(Lit.int .i64 n).wf=true):Uo n:=by
 have:=bounds_i64 h;unfold Uo;omega
theorem aN{n:Int}(h:(Lit.int .u8 n).wf=true):u8R n:=by
 have:=bounds_u8 h;unfold u8R;omega
end
open Go Go.Sy Go.RowKit Go.ChangeShapes Go.WideShapes Go.ChangeAt
section
variable {H:Type}{enc:TypeId×Value->H}{W:World}
theorem aP(fuel:Nat):J3 enc Tryz.prog W 23 fuel (λl:List Int=>[.sl zIw (l.map iD)]) (λl=>l.length<=maxLen/\∀x∈l,Uo x):=by
 cases fuel with
 |zero=>exact I9
 |succ n=>exact Lj id _ _ (LD Tryz.underlying23 zIw (by kernel_rfl) (by decide) (UV Tryz.underlying2)) (λ_=>rfl) (λ_ h=>⟨h.1,λx hx=>Xe (h.2 x hx)⟩)
variable {base:Nat}{v:Value}{d:DataW H}{p:List MemPlace}
theorem kQ(hv:Value.okWide Tryz.prog W .any base 23 v)(h:DataW.Trod enc Tryz.prog W 0 (λ_=>true) true 23 v d p):
  ∃l:List Int,(l.length<=maxLen/\∀x∈l,Uo x)/\CD (hp W) (λb=>b<W.heap.size) (.one (.d (.sl zIw (l.map iD)))) v:=Zo (f:=λl:List Int=>D.sl zIw (l.map iD)) (r:=.any) (base:=base) (YY Tryz.underlying23 hv) h aP
end
open Go Go.Sy Go.RowKit Go.ChangeShapes Go.WideShapes Go.ChangeAt
section
variable {H:Type}{enc:TypeId×Value->H}{W:World}
theorem tT(fuel:Nat):J3 enc Tryz.prog W 70 fuel Hu (λl=>l.length<=maxLen/\∀x∈l,u8R x):=by
 cases fuel with
 |zero=>exact I9
 |succ n=>exact Lj id _ _ (LD Tryz.underlying70 zBy (by kernel_rfl) (by decide) (UV Tryz.underlying5)) (λ_=>rfl) (λ_ h=>⟨h.1,λx hx=>aN (h.2 x hx)⟩)
theorem nC(fuel:Nat):J3 enc Tryz.prog W 22 fuel (λl:List (List Int)=>[.sl JB (l.map Hu)]) (λl=>l.length<=maxLen/\∀x∈l,x.length<=maxLen/\∀y∈x,u8R y):=by
 cases fuel with
 |zero=>exact I9
 |succ n=>exact LD Tryz.underlying22 JB (by kernel_rfl) (by decide) (tT n)
variable {base:Nat}{v:Value}{d:DataW H}{p:List MemPlace}
theorem cW(hv:Value.okWide Tryz.prog W .any base 22 v)(h:DataW.Trod enc Tryz.prog W 0 (λ_=>true) true 22 v d p):
  ∃l:List (List Int),(l.length<=maxLen/\∀x∈l,x.length<=maxLen/\∀y∈x,u8R y)/\CD (hp W) (λb=>b<W.heap.size) (.one (.d (.sl JB (l.map Hu)))) v:=Zo (f:=λl:List (List Int)=>D.sl JB (l.map Hu)) (r:=.any) (base:=base) (YY Tryz.underlying22 hv) h nC
end
end Go.Proofs.YtapedeoheilnnaaGreat
