/- From a walk that returns true and leaves what was there to the row's statement. No conditions but those in each statement. -/
import Derived.Test.YtodppgiaimihfabDoorTie
import Derived.Test.YtodppgiaimihfabDoorCards
import Derived.LaidMore
import Derived.Lay
import Derived.SevenTiedAt
import Derived.Stop.Joined
import Derived.ProofKit
import Derived.OpenShut
import Derived.Lib.SmallJoins
import Derived.Carry
import Derived.Test.YtodppgiaimihfabDoorPz7
set_option linter.unusedVariables false
set_option linter.unusedSimpArgs false
namespace Go.Proofs.YtodppgiaimihfabDoor
open Go Go.RowKit Go.ChangeShapes Go.WideShapes Go.ChangeAt
theorem ownK:ownKnob Tryd.prog.godebug=none:=by kernel_rfl
theorem laidK:laidOutB Tryd.prog=true:=by kernel_rfl
theorem trodAll_below {H:Type} {enc:TypeId×Value→H} {P:Program} (hl:laidOutB P=true) {W W':World} (hb:Below W.heap.size W W'):∀(ts:List TypeId) (vs:List Value) (ds:List (DataW H)) (ps:List MemPlace),
  (∀t∈ts,P.readableRec t=true∧t<P.types.size)→DataW.TrodAll enc P W 0 (fun _=>true) true ts vs ds ps→(∀x∈ps,x.block<W.heap.size)→DataW.TrodAll enc P W' 0 (fun b=>decide (b<W.heap.size)) true ts vs ds ps
 |[],vs,ds,ps,_,h,_=>by
  obtain⟨rfl,rfl,rfl⟩:=trodAll_nil h
  exact trodAll_mk0
 |t::ts,vs,ds,ps,hts,h,hlt=>by
  obtain⟨v,vs',d,ds',p,q,rfl,rfl,rfl,h1,h2⟩:=trodAll_cons h
  have ht:=hts t (List.mem_cons_self ..)
  exact trodAll_cons_mk (Below.trod hl ht.1 ht.2 h1 hb fun x hx=>hlt x (List.mem_append_left _ hx))
   (trodAll_below hl hb ts vs' ds' q (fun t' ht'=>hts t' (List.mem_cons_of_mem _ ht')) h2 fun x hx=>hlt x (List.mem_append_right _ hx))
theorem law_post {H:Type} {enc:TypeId×Value→H} {f:Func} {s:ChangeSpec} {W W':World} {args:Array Value} {ds gs:List (DataW H)} {before:List MemPlace} (hW:DataW.Whole enc Tryd.prog f.params.toList s.vars false W args.toList ds gs before)
  (hv:s.vars=[]) (hr:f.resultTypes = #[4]) (hts:∀t∈f.params.toList,Tryd.prog.readableRec t=true∧t<Tryd.prog.types.size)
  (hf:gs=[]→(s.fn H (ds++gs)).results=[.lit (.bool true)]∧(s.fn H (ds++gs)).args=ds∧(s.fn H (ds++gs)).vars=[]) (hb:Below W.heap.size W W') :
  s.post enc Tryd.prog f false true false false W args (.bool true) W':=by
 have hlt:=hW.lt
 have hW0:=hW
 obtain⟨p,q,hA,hV,rfl,_,_⟩:=hW
 rw[hv]at hV
 obtain⟨rfl,rfl⟩:=trodVars_none hV
 obtain⟨f1,f2,f3⟩:=hf rfl
 refine⟨ds,[],p++[],[],p,[],hW0,?_,?_,?_,hb.frame _,fun h=>by cases h⟩
 ·rw[f1,hr]
  exact trodAll_cons_mk (shut_bool Tryd.underlying4 true) trodAll_mk0
 ·rw[f2]
  exact trodAll_below laidK hb _ _ _ _ hts hA fun x hx=>by simpa using hlt x (List.mem_append_left _ hx)
 ·rw[f3,hv];rfl
end Go.Proofs.YtodppgiaimihfabDoor
namespace Go.Proofs.YtodppgiaimihfabDoor
open Go Go.Sy Go.RowKit Go.ChangeShapes Go.WideShapes Go.ChangeAt
theorem wf_b0 {n:Int} (h:(Lit.int .u8 n).wf=true):0≤n:=by
 have:=bounds_u8 h;omega
theorem wf_h0 {n:Int} (h:(Lit.int .u16 n).wf=true):0≤n:=by
 have:=bounds_u16 h;omega
theorem c_ParseMany (a:Int) (ha:(Lit.int .u8 a).wf=true) (b:Int) (hb:(Lit.int .u8 b).wf=true) (c:Int) (hc:(Lit.int .u16 c).wf=true) (d:Int) (hd:(Lit.int .u8 d).wf=true) (W:World) :
  Calls Tryd.prog 4 #[.int .u8 a,.int .u8 b,.int .u16 c,.int .u8 d] W (fun en W'=>en= .returned (.bool true)∧Below W.heap.size W W'):=
 to_plain y_ParseMany (a,b,c,d,()) W ⟨wf_b0 ha,wf_b0 hb,wf_h0 hc,wf_b0 hd⟩ [.int .u8 a,.int .u8 b,.int .u16 c,.int .u8 d] (.bool true) rfl (fun j u x h1 h2=>by
  rcases j with _|_|_|_|j
  ·obtain rfl:Value.int .u8 a=x:=Option.some.inj h2
   obtain rfl:SV.one (.v (.int .u8 a))=u:=Option.some.inj h1
   exact sd_ofV (x:=.int .u8 a) rfl
  ·obtain rfl:Value.int .u8 b=x:=Option.some.inj h2
   obtain rfl:SV.one (.v (.int .u8 b))=u:=Option.some.inj h1
   exact sd_ofV (x:=.int .u8 b) rfl
  ·obtain rfl:Value.int .u16 c=x:=Option.some.inj h2
   obtain rfl:SV.one (.v (.int .u16 c))=u:=Option.some.inj h1
   exact sd_ofV (x:=.int .u16 c) rfl
  ·obtain rfl:Value.int .u8 d=x:=Option.some.inj h2
   obtain rfl:SV.one (.v (.int .u8 d))=u:=Option.some.inj h1
   exact sd_ofV (x:=.int .u8 d) rfl
  ·exact absurd (show ([]:List Value)[j]?=some x from h2) (by simp)) rfl
end Go.Proofs.YtodppgiaimihfabDoor
