/- The chapter's example of runs; programs of one function, walked. Conditions: those of the texts. -/
import Derived.Test.YtjnnmindcbgjhaaPgm
import Derived.Test.YtjnnmindcbgjhaaRmn
import Derived.Test.YtjnnmindcbgjhaaRows
import Derived.Test.YtjnnmindcbgjhaaOp
import Derived.Lib.SmallJoins
import Derived.Carry
set_option linter.unusedVariables false
set_option linter.unusedSimpArgs false
set_option maxRecDepth 20000
set_option maxHeartbeats 8000000
namespace Go.Proofs.Ytjnnmindcbgjhaa
open Go Go.Sy Go.RowKit
abbrev u8R (n:Int):Prop:=0≤n∧n≤255
abbrev fC (n:Int):Prop:=0≤n∧n≤65535
def fD (n:Nat) (s:Sm):Bool:=decide (s.e.dp<n)&&decide (s.f.dp<n)&&decide (s.cd.dp<n)&&s.ar.all (fun a=>decide (a.e.dp<n))&&decide (s.ar.length≤5000)
theorem ku {n:Nat} {s:Sm} (h:fD n s=true):OkS n s:=by
 simp only[fD,Bool.and_eq_true,decide_eq_true_eq,List.all_eq_true]at h
 exact⟨h.1.1.1.1,h.1.1.1.2,h.1.1.2,h.1.2,h.2⟩
def US (n:Nat):Nat→List Sm→Bool
 |0,_=>false
 |m+1,l=>decide (l.length≤5000)&&l.all fun s=>fD n s&&US n m s.th&&US n m s.el
theorem RR {n:Nat}:∀{m:Nat} {l:List Sm},US n m l=true→okB n m l
 |0,l,h=>by cases h
 |m+1,l,h=>by
  simp only[US,Bool.and_eq_true,decide_eq_true_eq,List.all_eq_true]at h
  exact⟨h.1,fun s hs=>⟨ku (h.2 s hs).1.1,RR (h.2 s hs).1.2,RR (h.2 s hs).2⟩⟩
def Zx (f:Fn):Bool:=decide (f.ps.length≤5000)&&decide (f.ls.length≤5000)
theorem Yc {f:Fn} (h:Zx f=true):okF f:=by
 simp only[Zx,Bool.and_eq_true,decide_eq_true_eq]at h;exact h
def sk (N M:Nat) (P:Pg):Bool:=decide (P.fs.length≤1000000)&&P.fs.all fun f=>Zx f&&US N M f.body
theorem kv {N M:Nat} {P:Pg} (h:sk N M P=true):okPg N P:=by
 simp only[sk,Bool.and_eq_true,decide_eq_true_eq,List.all_eq_true]at h
 exact⟨h.1,fun f hf=>⟨Yc (h.2 f hf).1,M,RR (h.2 f hf).2⟩⟩
theorem Qg {n m:Nat} {gl:List UInt8→List Gi} {s t:List UInt8} (h1:(s==gloB)=false) (h2:Ce t) (h3:(Zx (IR t).1&&US n m (IR t).1.body)=true):okUn n m gl ⟨s,t⟩:=by
 simp only[Bool.and_eq_true]at h3
 exact⟨fun h=>(by rw[h1]at h;cases h),fun _=>h2,fun _=>Yc h3.1,fun _=>RR h3.2⟩
theorem sn {n m:Nat} {gl:List UInt8→List Gi} {t:List UInt8} (h1:glO t (gl t)) (h2:RP (giV (gl t)).ns) (h3:(giV (gl t)).c.length≤5000) (h4:(giV (gl t)).a.length≤5000):okUn n m gl ⟨gloB,t⟩:=by
 have hb:(gloB==gloB)=true:=by decide
 exact⟨fun _=>⟨h1,h2,h3,h4⟩,fun h=>(by rw[hb]at h;cases h),fun h=>(by rw[hb]at h;cases h),fun h=>(by rw[hb]at h;cases h)⟩
theorem Of {l:List (List UInt8)} (h:l.Nodup):RP l:=by
 intro i j hj hi
 have hjl:j<l.length:=by omega
 simp only[List.getD,List.getElem?_eq_getElem hi,List.getElem?_eq_getElem hjl,Option.getD_some]
 have:=List.pairwise_iff_getElem.1 h j i hjl hi hj
 simpa using this
theorem sq (s t:List UInt8):mUn.d [.v (.string (bs s)),.v (.string (bs t))]=some ⟨s,t⟩:=HC Yy ⟨s,t⟩
def kgl:List UInt8→List Gi:=fun _=>[.c [99]]
end Go.Proofs.Ytjnnmindcbgjhaa
namespace Go.Proofs.Ytjnnmindcbgjhaa
open Go Go.Sy Go.RowKit Go.ChangeShapes Go.WideShapes Go.ChangeAt
theorem A5I:ownKnob Try.prog.godebug=none:=by kernel_rfl
theorem zd:laidOutB Try.prog=true:=by kernel_rfl
theorem QY {H:Type} {enc:TypeId×Value→H} {P:Program} (hl:laidOutB P=true) {W W':World} (hb:Below W.heap.size W W'):∀(ts:List TypeId) (vs:List Value) (ds:List (DataW H)) (ps:List MemPlace),
  (∀t∈ts,P.readableRec t=true∧t<P.types.size)→DataW.TrodAll enc P W 0 (fun _=>true) true ts vs ds ps→(∀x∈ps,x.block<W.heap.size)→DataW.TrodAll enc P W' 0 (fun b=>decide (b<W.heap.size)) true ts vs ds ps
 |[],vs,ds,ps,_,h,_=>by
  obtain⟨rfl,rfl,rfl⟩:=trodAll_nil h
  exact trodAll_mk0
 |t::ts,vs,ds,ps,hts,h,hlt=>by
  obtain⟨v,vs',d,ds',p,q,rfl,rfl,rfl,h1,h2⟩:=trodAll_cons h
  have ht:=hts t (List.mem_cons_self ..)
  exact trodAll_cons_mk (Below.trod hl ht.1 ht.2 h1 hb fun x hx=>hlt x (List.mem_append_left _ hx))
   (QY hl hb ts vs' ds' q (fun t' ht'=>hts t' (List.mem_cons_of_mem _ ht')) h2 fun x hx=>hlt x (List.mem_append_right _ hx))
theorem fE {H:Type} {enc:TypeId×Value→H} {f:Func} {s:ChangeSpec} {W W':World} {args:Array Value} {ds gs:List (DataW H)} {before:List MemPlace} (hW:DataW.Whole enc Try.prog f.params.toList s.vars false W args.toList ds gs before)
  (hv:s.vars=[]) (hr:f.resultTypes = #[4]) (hts:∀t∈f.params.toList,Try.prog.readableRec t=true∧t<Try.prog.types.size)
  (hf:gs=[]→(s.fn H (ds++gs)).results=[.lit (.bool true)]∧(s.fn H (ds++gs)).args=ds∧(s.fn H (ds++gs)).vars=[]) (hb:Below W.heap.size W W') :
  s.post enc Try.prog f false true false false W args (.bool true) W':=by
 have hlt:=hW.lt
 have hW0:=hW
 obtain⟨p,q,hA,hV,rfl,_,_⟩:=hW
 rw[hv]at hV
 obtain⟨rfl,rfl⟩:=trodVars_none hV
 obtain⟨f1,f2,f3⟩:=hf rfl
 refine⟨ds,[],p++[],[],p,[],hW0,?_,?_,?_,hb.frame _,fun h=>by cases h⟩
 ·rw[f1,hr]
  exact trodAll_cons_mk (shut_bool Try.underlying4 true) trodAll_mk0
 ·rw[f2]
  exact QY zd hb _ _ _ _ hts hA fun x hx=>by simpa using hlt x (List.mem_append_left _ hx)
 ·rw[f3,hv];rfl
theorem bw {P:Program} {f:FuncId} {A:Type} {ac:ArgH A} {Cd:A→Prop} {F:A→SV} (h:M6 P f ac Cd F) (a:A) (w:World) (hc:Cd a) (vals:List Value) (val:Value) (hl:vals.length=(ac.e a).length)
  (h1:∀(j:Nat) (v:SV) (x:Value),(ac.e a)[j]?=some v→vals[j]?=some x→CD (hp w) (fun b=>b<w.heap.size) v x)
  (h2:Nd (F a)=some val):Calls P f vals.toArray w (fun e w'=>e= .returned val∧Below w.heap.size w w'):=by
 refine(h a w (fun b=>b<w.heap.size) vals hc (fun _ h=>h) hl h1).mono ?_
 rintro e w' ⟨v,x,fz',rfl,rfl,g1,g2,g3,g4,g5,g6⟩
 rw[Fc g5 h2]
 exact⟨rfl,g6⟩
section
variable {H:Type} {enc:TypeId×Value→H} {W:World} {base:Nat} {v:Value} {d:DataW H} {p:List MemPlace}
theorem bx {n:Int} (h:(Lit.int .u8 n).wf=true):u8R n:=by
 have:=bounds_u8 h;unfold u8R;omega
end
end Go.Proofs.Ytjnnmindcbgjhaa
namespace Go.Proofs.Ytjnnmindcbgjhaa
open Go Go.Sy Go.RowKit
structure Ou where
 e:Int
 v:Int
 f:List UInt8
 al:Int
 k:Int
 s:Sta
def Ou.c (x:Ou):List C:=[.v (.int .i64 x.e),.v (.int .i64 x.v),.v (.string (bs x.f)),.v (.int .i64 x.al),.v (.int .i64 x.k),.d (.sl ON (x.s.cs.map Nb.r)),.d (.sl OO (x.s.ar.map Na.r))]
theorem ze {l:List Int} {i:Nat} {x:Int} (h:l[i]?=some x) (z:List D):(l.map iD).getD i z=[.v (.int .i64 x)]:=by simp[List.getD,h,iD]
end Go.Proofs.Ytjnnmindcbgjhaa
namespace Go.Proofs.Ytjnnmindcbgjhaa
open Go Go.Sy Go.RowKit
abbrev A5J (pc:List (List UInt8)) (pa:List Gy) (pf:List Fn):Ch:=.vec 0 [.v (.bool false),.v (.bool false),.v (.bool false)] [[.d (.sl Fj (pc.map cSd)),.d (.sl Gm (pa.map Gy.r)),.d (.sl zFn (pf.map Fn.r))]]
abbrev Wg:List C:=tgN 44 2
end Go.Proofs.Ytjnnmindcbgjhaa
namespace Go.Proofs.Ytjnnmindcbgjhaa
open Go Go.Sy Go.RowKit
end Go.Proofs.Ytjnnmindcbgjhaa
namespace Go.Proofs.Ytjnnmindcbgjhaa
open Go Go.Sy Go.RowKit
def aP:Pg:=⟨⟨[[99]],[⟨[116],2⟩]⟩,[⟨[102],[⟨[120],false⟩],[],[(.mk 0 [99] [] (.mk 2 0 [] (.mk 4 0 [] (.mk 1 0 [99] .nil .nil) (.mk 0 3 [] .nil .nil)) (.mk 1 0 [120] .nil .nil)) .nil .nil [] [] [] 0),(.mk 6 [120] [116] (.mk 0 1 [] .nil .nil) .nil .nil [] [] [] 1),(.mk 7 [] [116] (.mk 0 0 [] .nil .nil) (.mk 1 0 [120] .nil .nil) .nil [] [] [] 2),(.mk 7 [] [116] (.mk 0 1 [] .nil .nil) (.mk 1 0 [99] .nil .nil) .nil [] [] [] 3),(.mk 9 [] [] (.mk 1 0 [99] .nil .nil) .nil .nil [] [] [] 4)]⟩]⟩
structure agS (a:Sta) (B x y:Int):Prop where
 c:stCs aP.g.c a.cs=[⟨[99],B⟩]
 a:stA aP.g.a a.ar=[⟨[116],[x,y]⟩]
end Go.Proofs.Ytjnnmindcbgjhaa
namespace Go.Proofs.Ytjnnmindcbgjhaa
open Go Go.Sy Go.RowKit
def M8:List C:=[.v (.bool false),.v (.int .i64 0),.v (.string (bs []))]
theorem Wh (l:List Va):List.flatMap (fun r=>List.flatMap C.names r) (l.map Va.c)=[]:=List.flatMap_eq_nil_iff.2 fun p hp=>by
 obtain⟨a,_,rfl⟩:=List.mem_map.1 hp
 rfl
theorem Zy (k t:Nat) (l:List Va):(l.map Va.c).map (fun r=>r.map (mvC k t))=l.map Va.c:=GH Va.c (fun _=>rfl) l
theorem Wi (l:List Va):D4 (l.map Va.c)=some (l.map Va.r):=FJ Va.c (fun _=>rfl) l
noncomputable def cI6:Cod (List Int):=GZ (fun l=>.one (.d (.sl zIw (l.map iD)))) (fun v a b h h'=>by
 cases v with
 |one c=>exact Ay dH (FP h h')
 |agg l=>exact h.elim
 |tup l=>exact h.elim) (fun l=>rfl)
theorem TH (l:List Int):cI6.e l= .one (.d (.sl zIw (l.map iD))):=rfl
theorem Pn (l:List Int):cI6.d (.one (.d (.sl zIw (l.map iD))))=some l:=Db (e:=fun l:List Int=>.one (.d (.sl zIw (l.map iD)))) (Do _)
theorem sr (x:Int):cI6.d (.one (.d (.sl [.v (.int .i64 0)] [[.v (.int .i64 x)]])))=some [x]:=Pn [x]
theorem ss (x y:Int):cI6.d (.one (.d (.sl [.v (.int .i64 0)] [[.v (.int .i64 x)],[.v (.int .i64 y)]])))=some [x,y]:=Pn [x,y]
def My (P:Pg):List Va:=⟨true,0,[]⟩::P.g.c.map fun c=>⟨true,0,c⟩
def HA (l:List Int):List Va:=if (l.length:Int)==0 then [⟨false,0,[]⟩] else l.map fun n=>⟨false,n,[]⟩
def OK (pc:List (List UInt8)) (i:Nat):List Va:=⟨true,0,[]⟩::(pc.take i).map fun c=>⟨true,0,c⟩
def Lj (l:List Int) (i:Nat):List Va:=(l.take i).map fun n=>⟨false,n,[]⟩
theorem su (pc:List (List UInt8)):OK pc 0=[⟨true,0,[]⟩]:=rfl
theorem kw (l:List Int):Lj l 0=[]:=rfl
theorem jb (p:Bool) (n:Int) (s:List UInt8):BB [[C.v (.bool p),C.v (.int .i64 n),C.v (.string (bs s))]]:=by
 intro r h c hc
 rw[List.mem_singleton.1 h]at hc
 simp only[List.mem_cons,List.not_mem_nil,or_false]at hc
 rcases hc with rfl|rfl|rfl<;>rfl
abbrev SB (p:Pg):Prop:=p.g.c.length≤1000000
abbrev He (p:Pg):SV:=.one (.d (.sl Ed ((My p).map Va.r)))
noncomputable abbrev OL:ArgC ((Pg)×Unit):=(acS (cPg) ac0)
abbrev YI:Prop:=CY Try.prog 65 OL (fun p:(Pg)×Unit=>SB p.1) (fun p:(Pg)×Unit=>He p.1)
theorem YJ:∀p:(Pg)×Unit,((fun p:(Pg)×Unit=>He p.1) p).names=[]:=by intro p;rfl
attribute [local go_sem] Va.c Va.r Pn TH O2 O1 pgR Wi Zy Wh
theorem Zz:YI:=by
 rintro ⟨p,_u⟩ w fz xs hc hfz hl hx
 refine BH Try.func65 rfl w fz [] [] OL (fun p:(Pg)×Unit=>He p.1) _ xs hfz hl hx (jN rfl) ?_
 clear hx hl hfz xs
 simp only[Try.f65]
 obtain⟨⟨pc,pa⟩,pf⟩:=p
 have hc:pc.length≤1000000:=hc
 simp only[↓eB,seval,go_sem]
 refine Aa (Y:=Nat) (fun i=>i≤pc.length)
  (fun i=>⟨[(3,true,.one (.s 1000)),(10,true,.one (.d (.sl Fj (pc.map cSd)))),(11,true,.one (.v (.int .i64 (pc.length:Int)))),(12,true,.one (.v (.int .i64 (i:Int))))],
   [(1000,.vec 0 M8 ((OK pc i).map Va.c))]⟩)
  (fun i=>pc.length-i) 0 (Nat.zero_le _) ?_ ?_
 ·refine A4 [.mv 7 1000] ?_;simp only[↓eB,seval,go_sem,M8,su]
 ·rintro i hi
  refine Ap [] [] _ _ _ ?_
  have w1:IntKind.i64.wrap ((i:Int)+1)=((i+1:Nat):Int):=by rw[wrap_i64 (by omega) (by omega)];rfl
  cases hx:pc[i]? with
  |none=>
   have g2:=List.getElem?_eq_none_iff.1 hx
   have g1:=BF g2
   have hr:My ⟨⟨pc,pa⟩,pf⟩=OK pc i:=by unfold OK;rw[List.take_of_length_le g2];rfl
   simp only[↓eB,seval,go_sem,g1]
   refine A0 [.fz 1000] ?_;simp only[↓eB,seval,go_sem,bne,He,hr,M8]
  |some x=>
   have hlt:=(List.getElem?_eq_some_iff.1 hx).1
   have g1:=BE hlt
   have hil:(i:Int)<(pc.length:Int):=by omega
   have hs:(pc.map cSd).getD i Fj=cSd x:=by simp[List.getD,hx]
   have hln:(OK pc i).length=i+1:=by simp[OK];omega
   have ht:(OK pc (i+1)).map Va.c=(OK pc i).map Va.c++[[.v (.bool true),.v (.int .i64 0),.v (.string (bs x))]]:=by
    unfold OK;rw[List.take_add_one,hx];simp[Va.c]
   simp only[↓eB,seval,go_sem,g1,hs,cSd,w1]
   refine⟨⟨hil,rfl⟩,⟨⟨rfl,.inl rfl⟩,(fun q h=>by cases h;rfl),jb _ _ _,(by decide),(by omega),(by omega)⟩,i+1,hlt,(by omega),Bz (t:=⟨[(3,true,.one (.s 20)),(10,true,.one (.d (.sl Fj (pc.map cSd)))),(11,true,.one (.v (.int .i64 (pc.length:Int)))),(12,true,.one (.v (.int .i64 ((i+1:Nat):Int))))],
    [(20,.vec 0 M8 ((OK pc (i+1)).map Va.c))]⟩) ?_ ?_⟩
   ·rw[ht]
    refine A4 [] ?_;simp only[↓eB,seval,go_sem,List.map_append,List.flatMap_append]
   ·refine A4 [.mv 20 1000] ?_;simp only[↓eB,seval,go_sem]
noncomputable def Hf {X:Ctx} {w0:World}:Sy.Spec Try.prog X w0:=D5 65 Try.call65 OL (fun p:(Pg)×Unit=>SB p.1) (fun p:(Pg)×Unit=>He p.1) YJ Zz
abbrev SD (l:List Int):Prop:=l.length≤1000000
abbrev GJ (l:List Int):SV:=.one (.d (.sl Ed ((HA l).map Va.r)))
noncomputable abbrev OM:ArgC ((List Int)×Unit):=(acS (cI6) ac0)
abbrev YK:Prop:=CY Try.prog 66 OM (fun p:(List Int)×Unit=>SD p.1) (fun p:(List Int)×Unit=>GJ p.1)
theorem YL:∀p:(List Int)×Unit,((fun p:(List Int)×Unit=>GJ p.1) p).names=[]:=by intro p;rfl
theorem a7:YK:=by
 rintro ⟨l,_u⟩ w fz xs hc hfz hl hx
 refine BH Try.func66 rfl w fz [] [] OM (fun p:(List Int)×Unit=>GJ p.1) _ xs hfz hl hx (jN rfl) ?_
 clear hx hl hfz xs
 simp only[Try.f66]
 have hc:l.length≤1000000:=hc
 cases h0:((l.length:Int)==0) with
 |true=>
  have hr:HA l=[⟨false,0,[]⟩]:=if_pos h0
  simp only[↓eB,seval,go_sem,h0]
  refine A0 [.fz 10] ?_;simp only[↓eB,seval,go_sem,bne,GJ,hr]
 |false=>
 have hr0:HA l=l.map fun n=>⟨false,n,[]⟩:=if_neg (by rw[h0];decide)
 simp only[↓eB,seval,go_sem,h0]
 refine Aa (Y:=Nat) (fun i=>i≤l.length)
  (fun i=>⟨[(3,true,.one (.s 1000)),(11,true,.one (.d (.sl zIw (l.map iD)))),(12,true,.one (.v (.int .i64 (l.length:Int)))),(13,true,.one (.v (.int .i64 (i:Int))))],
   [(1000,.vec 0 M8 ((Lj l i).map Va.c))]⟩)
  (fun i=>l.length-i) 0 (Nat.zero_le _) ?_ ?_
 ·refine A4 [.nil 3 1000 M8] ?_;simp only[↓eB,seval,go_sem,M8,kw]
 ·rintro i hi
  refine Ap [] [] _ _ _ ?_
  have w1:IntKind.i64.wrap ((i:Int)+1)=((i+1:Nat):Int):=by rw[wrap_i64 (by omega) (by omega)];rfl
  cases hx:l[i]? with
  |none=>
   have g2:=List.getElem?_eq_none_iff.1 hx
   have g1:=BF g2
   have hr:HA l=Lj l i:=by unfold Lj;rw[hr0,List.take_of_length_le g2]
   simp only[↓eB,seval,go_sem,g1]
   refine A0 [.fz 1000] ?_;simp only[↓eB,seval,go_sem,bne,GJ,hr,M8]
  |some x=>
   have hlt:=(List.getElem?_eq_some_iff.1 hx).1
   have g1:=BE hlt
   have hil:(i:Int)<(l.length:Int):=by omega
   have hs:=ze hx
   have hln:(Lj l i).length=i:=by simp[Lj];omega
   have ht:((Lj l (i+1))).map Va.c=(Lj l i).map Va.c++[[.v (.bool false),.v (.int .i64 x),.v (.string (bs []))]]:=by
    unfold Lj;rw[List.take_add_one,hx];simp[Va.c]
   simp only[↓eB,seval,go_sem,g1,hs,w1]
   refine⟨hil,⟨⟨rfl,.inl rfl⟩,(fun q h=>by cases h;rfl),jb _ _ _,(by decide),(by omega),(by omega)⟩,i+1,hlt,(by omega),Bz (t:=⟨[(3,true,.one (.s 21)),(11,true,.one (.d (.sl zIw (l.map iD)))),(12,true,.one (.v (.int .i64 (l.length:Int)))),(13,true,.one (.v (.int .i64 ((i+1:Nat):Int))))],
    [(21,.vec 0 M8 ((Lj l (i+1)).map Va.c))]⟩) ?_ ?_⟩
   ·rw[ht]
    refine A4 [] ?_;simp only[↓eB,seval,go_sem,List.map_append,List.flatMap_append]
   ·refine A4 [.mv 21 1000] ?_;simp only[↓eB,seval,go_sem]
noncomputable def Hg {X:Ctx} {w0:World}:Sy.Spec Try.prog X w0:=D5 66 Try.call66 OM (fun p:(List Int)×Unit=>SD p.1) (fun p:(List Int)×Unit=>GJ p.1) YL a7
end Go.Proofs.Ytjnnmindcbgjhaa
