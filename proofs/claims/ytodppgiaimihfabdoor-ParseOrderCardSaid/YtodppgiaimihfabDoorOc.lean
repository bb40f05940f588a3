/- Bytes that come in. No conditions but those in each statement. -/
import Derived.Test.YtodppgiaimihfabDoorOp
import Derived.Test.YtodppgiaimihfabDoorPz4
import Derived.Test.YtodppgiaimihfabDoorPz5
import Derived.Test.YtodppgiaimihfabDoorTie
import Derived.Test.YtodppgiaimihfabDoorCards
import Derived.LaidMore
import Derived.Lay
import Derived.SevenTiedAt
import Derived.Stop.Joined
import Derived.ProofKit
import Derived.OpenShut
import Derived.Lib.SmallJoins
import Derived.Carry
set_option linter.unusedVariables false
set_option linter.unusedSimpArgs false
namespace Go.Proofs.YtodppgiaimihfabDoor
open Go Go.Sy Go.RowKit Go.ChangeShapes Go.WideShapes Go.ChangeAt
section
variable {H:Type} {enc:TypeId×Value→H} {W:World} {base:Nat} {v:Value} {d:DataW H} {p:List MemPlace}
theorem wf_byte {n:Int} (h:(Lit.int .u8 n).wf=true):0≤n∧n<256:=by
 have:=bounds_u8 h;omega
theorem opn_bytes:Opn enc Tryd.prog W 40 (fun l:List Int=>[.sl zBy (l.map byD)]) (fun l=>l.length≤maxLen∧∀x∈l,0≤x∧x<256):=by
 intro fuel
 cases fuel with
 |zero=>exact opnF_zero
 |succ n=>exact opnF_map id _ _ (opnF_slice Tryd.underlying40 zBy (by kernel_rfl) (by decide) (opnF_int Tryd.underlying5)) (fun _=>rfl) (fun _ h=>⟨h.1,fun x hx=>wf_byte (h.2 x hx)⟩)
set_option maxRecDepth 100000 in
theorem open_bytes (hv:Value.okWide Tryd.prog W .any base 40 v) (h:DataW.Trod enc Tryd.prog W 0 (fun _=>true) true 40 v d p) :
  ∃a:List Int,(a.length≤maxLen∧∀x∈a,0≤x∧x<256)∧CD (hp W) (fun b=>b<W.heap.size) (.one (.d (.sl zBy (a.map byD)))) v:=
 open_one (r:=.any) (base:=base) (f:=fun l:List Int=>.sl zBy (l.map byD)) (okWide_sl Tryd.underlying40 hv) h opn_bytes
end
end Go.Proofs.YtodppgiaimihfabDoor
namespace Go.Proofs.YtodppgiaimihfabDoor
open Go Go.Sy Go.RowKit Go.ChangeShapes Go.WideShapes Go.ChangeAt
theorem to_plainLY {P:Program} {f:FuncId} {A:Type} {ac:ArgC A} {Cd:A→Prop} {F:A→SV} (h:CallsY P f ac Cd F) (a:A) (w:World) (hc:Cd a) (vals:List Value) (val:Value) (hl:vals.length=(ac.e a).length)
  (h1:∀(j:Nat) (v:SV) (x:Value),(ac.e a)[j]?=some v→vals[j]?=some x→CD (hp w) (fun b=>b<w.heap.size) v x)
  (h2:clos (F a)=some val):Calls P f vals.toArray w (fun e w'=>e= .returned val∧Below w.heap.size w w'):=by
 refine(h a w (fun b=>b<w.heap.size) vals hc (fun _ h=>h) hl h1).mono ?_
 rintro e w' ⟨v,x,fz',rfl,rfl,g1,g2,g3,g4,g5,g6⟩
 rw[sd_clos g5 h2]
 exact⟨rfl,g6⟩
theorem c_ParseOrder (b:List Int) (v:Value) (hb:b.length≤maxLen∧∀x∈b,0≤x∧x<256) (W:World) (hx:CD (hp W) (fun b=>b<W.heap.size) (.one (.d (.sl zBy (b.map byD)))) v) :
  Calls Tryd.prog 5 #[v] W (fun en W'=>en= .returned (.bool true)∧Below W.heap.size W W'):=by
 refine to_plainLY y_ParseOrder (b,()) W hb [v] (.bool true) rfl ?_ rfl
 intro j u x h1 h2
 rcases j with _|j
 ·obtain rfl:v=x:=Option.some.inj h2
  obtain rfl:SV.one (.d (.sl zBy (b.map byD)))=u:=Option.some.inj h1
  exact hx
 ·exact absurd (show ([]:List Value)[j]?=some x from h2) (by simp)
end Go.Proofs.YtodppgiaimihfabDoor
namespace Go.Proofs.YtodppgiaimihfabDoor
open Go Go.RowKit Go.ChangeShapes Go.WideShapes Go.ChangeAt
theorem ownK:ownKnob Tryd.prog.godebug=none:=by kernel_rfl
theorem laidK:laidOutB Tryd.prog=true:=by kernel_rfl
theorem trodAll_below {H:Type} {enc:TypeId×Value→H} {P:Program} (hl:laidOutB P=true) {W W':World} (hb:Below W.heap.size W W'):∀(ts:List TypeId) (vs:List Value) (ds:List (DataW H)) (ps:List MemPlace),
  (∀t∈ts,P.readableRec t=true∧t<P.types.size)→DataW.TrodAll enc P W 0 (fun _=>true) true ts vs ds ps→(∀x∈ps,x.block<W.heap.size)→DataW.TrodAll enc P W' 0 (fun b=>decide (b<W.heap.size)) true ts vs ds ps
 |[],vs,ds,ps,_,h,_=>by
  obtain⟨rfl,rfl,rfl⟩:=trodAll_nil h
  exact trodAll_mk0
 |t::ts,vs,ds,ps,hts,h,hlt=>by
  obtain⟨v,vs',d,ds',p,q,rfl,rfl,rfl,h1,h2⟩:=trodAll_cons h
  have ht:=hts t (List.mem_cons_self ..)
  exact trodAll_cons_mk (Below.trod hl ht.1 ht.2 h1 hb fun x hx=>hlt x (List.mem_append_left _ hx))
   (trodAll_below hl hb ts vs' ds' q (fun t' ht'=>hts t' (List.mem_cons_of_mem _ ht')) h2 fun x hx=>hlt x (List.mem_append_right _ hx))
theorem law_post {H:Type} {enc:TypeId×Value→H} {f:Func} {s:ChangeSpec} {W W':World} {args:Array Value} {ds gs:List (DataW H)} {before:List MemPlace} (hW:DataW.Whole enc Tryd.prog f.params.toList s.vars false W args.toList ds gs before)
  (hv:s.vars=[]) (hr:f.resultTypes = #[4]) (hts:∀t∈f.params.toList,Tryd.prog.readableRec t=true∧t<Tryd.prog.types.size)
  (hf:gs=[]→(s.fn H (ds++gs)).results=[.lit (.bool true)]∧(s.fn H (ds++gs)).args=ds∧(s.fn H (ds++gs)).vars=[]) (hb:Below W.heap.size W W') :
  s.post enc Tryd.prog f false true false false W args (.bool true) W':=by
 have hlt:=hW.lt
 have hW0:=hW
 obtain⟨p,q,hA,hV,rfl,_,_⟩:=hW
 rw[hv]at hV
 obtain⟨rfl,rfl⟩:=trodVars_none hV
 obtain⟨f1,f2,f3⟩:=hf rfl
 refine⟨ds,[],p++[],[],p,[],hW0,?_,?_,?_,hb.frame _,fun h=>by cases h⟩
 ·rw[f1,hr]
  exact trodAll_cons_mk (shut_bool Tryd.underlying4 true) trodAll_mk0
 ·rw[f2]
  exact trodAll_below laidK hb _ _ _ _ hts hA fun x hx=>by simpa using hlt x (List.mem_append_left _ hx)
 ·rw[f3,hv];rfl
end Go.Proofs.YtodppgiaimihfabDoor
