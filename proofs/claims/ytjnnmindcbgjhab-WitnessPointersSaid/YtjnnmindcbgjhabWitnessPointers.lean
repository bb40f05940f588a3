/- The statement WitnessPointers. No conditions but those in each statement. -/
import Derived.Test.YtjnnmindcbgjhabWm
set_option linter.unusedVariables false
set_option linter.unusedSimpArgs false
namespace Go.Proofs.Ytjnnmindcbgjhab.witnessPointers
open Go Go.Sy Go.ChangeShapes Go.WideShapes Go.ChangeAt Go.RowKit
set_option maxRecDepth 100000 in
theorem lifted (os:Os) (started:os.Started) (H:Type) (enc:TypeId×Value→H) :
  ReturnsInHanded {} Try.checked os 3 .any (Rows.witnessPointersSpec.pre6 enc Try.prog Try.f3 Rows.witnessPointersRow.domain false) (Rows.witnessPointersSpec.post enc Try.prog Try.f3 false true false false):=by
 refine returnsInHanded_of_change (C:=Try.checked) ownK started (by kernel_rfl) Try.func3
  (ChangeSpec.witness6 (enc:=enc) (C:=Try.checked) false ⟨#[],#[.int .u8 0,.int .u8 0],[]⟩ 8 (by kernel_rfl) (by kernel_rfl) (by kernel_rfl) (by kernel_rfl)) ?_
 intro W base args ds gs before hval0 hW hcnd _
 have hval:∀(j:Nat) t v,Try.f3.params[j]?=some t→args[j]?=some v→Value.okWide Try.prog W .any base t v:=hval0
 have hW':=hW
 obtain⟨p,q,hA0,hV,rfl,hfz,hnd⟩:=hW
 have hA:DataW.TrodAll enc Try.prog W 0 (fun _=>true) true Try.f3.params.toList args.toList ds p:=hA0
 rw[Try.params3]at hA hval
 obtain⟨v0,vs0,d0,ds0,p0,q0,hargs,rfl,rfl,h0,r0⟩:=trodAll_cons hA
 obtain⟨v1,vs1,d1,ds1,p1,q1,rfl,rfl,rfl,h1,r1⟩:=trodAll_cons r0
 obtain⟨rfl,rfl,rfl⟩:=trodAll_nil r1
 obtain rfl:args = #[v0,v1]:=by cases args;simp_all
 obtain⟨rfl,rfl⟩:=trodVars_none hV
 obtain⟨a0,rfl,_,_,w0⟩:=open_int Try.underlying5 (hval 0 5 _ rfl rfl) h0
 have x0:CD (hp W) (fun b=>b<W.heap.size) (SV.one (.v (.int .u8 a0))) (.int .u8 a0):=sc_of (H:=fun _=>none) (c:=.v _) rfl (.v _ _ rfl)
 obtain⟨a1,rfl,_,_,w1⟩:=open_int Try.underlying5 (hval 1 5 _ rfl rfl) h1
 have x1:CD (hp W) (fun b=>b<W.heap.size) (SV.one (.v (.int .u8 a1))) (.int .u8 a1):=sc_of (H:=fun _=>none) (c:=.v _) rfl (.v _ _ rfl)
 clear hA0 hval0
 refine(to_plainR y_WitnessPointers (a0,a1,()) W ⟨(wf_u8' w0),(wf_u8' w1)⟩ [.int .u8 a0,.int .u8 a1] (.bool true) rfl ?_ rfl).mono fun e W' ⟨he,hb⟩=>?_
 ·intro j v x hv hx
  rcases j with _|_|j
  ·have hv:SV.one (.v (.int .u8 a0))=v:=Option.some.inj hv
   have hx:(.int .u8 a0:Value)=x:=Option.some.inj hx
   rw[← hv,← hx];exact x0
  ·have hv:SV.one (.v (.int .u8 a1))=v:=Option.some.inj hv
   have hx:(.int .u8 a1:Value)=x:=Option.some.inj hx
   rw[← hv,← hx];exact x1
  ·exact absurd (show ([]:List Value)[j]?=some x from hx) (by simp)
 subst he
 exact⟨_,rfl,law_post hW' rfl rfl (by rw[Try.params3];intro t ht;simp only[List.mem_cons,List.not_mem_nil,or_false]at ht;rcases ht with rfl|rfl<;>exact⟨by kernel_rfl,of_decide_eq_true (by kernel_rfl)⟩) (fun _=>⟨rfl,rfl,rfl⟩) hb⟩
theorem over:Rows.witnessPointersRow.holds Try.pinned (OpenSpec.ofChange Rows.witnessPointersSpec):=
 OpenClaim.holds_of_wide 3 Try.f3 rfl rfl rfl rfl rfl rfl rfl ⟨rfl,rfl,rfl,rfl,rfl⟩ rfl rfl rfl rfl rfl (by kernel_rfl) Try.func3 (by kernel_rfl)
  (of_decide_eq_true (by kernel_rfl)) (by unfold Func.isWrapper;first|(rw[if_pos (by decide +kernel)];kernel_rfl)|(rw[if_neg (by decide +kernel)];exact⟨rfl,rfl⟩))
  (fun os started H enc _=>lifted os started H enc)
theorem proved:Rows.WitnessPointersSaid:=over
end Go.Proofs.Ytjnnmindcbgjhab.witnessPointers
