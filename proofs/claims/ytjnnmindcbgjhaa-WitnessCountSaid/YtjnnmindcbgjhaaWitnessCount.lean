/- The statement WitnessCount. No conditions but those in each statement. -/
import Derived.Test.YtjnnmindcbgjhaaPs
import Derived.Test.YtjnnmindcbgjhaaKr
set_option linter.unusedVariables false
set_option linter.unusedSimpArgs false
namespace Go.Proofs.Ytjnnmindcbgjhaa.witnessCount
open Go Go.Sy Go.ChangeShapes Go.WideShapes Go.ChangeAt Go.RowKit
set_option maxRecDepth 100000 in
theorem lifted (os:Os) (started:os.Started) (H:Type) (enc:TypeId×Value→H) :
  ReturnsInHanded {} Try.checked os 9 .any (Rows.witnessCountSpec.pre6 enc Try.prog Try.f9 Rows.witnessCountRow.domain false) (Rows.witnessCountSpec.post enc Try.prog Try.f9 false true false false):=by
 refine returnsInHanded_of_change (C:=Try.checked) A5I started (by kernel_rfl) Try.func9
  (ChangeSpec.witness6 (enc:=enc) (C:=Try.checked) false ⟨#[],#[.int .u8 0,.int .u8 0,.int .u16 0],[]⟩ 8 (by kernel_rfl) (by kernel_rfl) (by kernel_rfl) (by kernel_rfl)) ?_
 intro W base args ds gs before hval0 hW hcnd _
 have hval:∀(j:Nat) t v,Try.f9.params[j]?=some t→args[j]?=some v→Value.okWide Try.prog W .any base t v:=hval0
 have hW':=hW
 obtain⟨p,q,hA0,hV,rfl,hfz,hnd⟩:=hW
 have hA:DataW.TrodAll enc Try.prog W 0 (fun _=>true) true Try.f9.params.toList args.toList ds p:=hA0
 rw[Try.params9]at hA hval
 obtain⟨v0,vs0,d0,ds0,p0,q0,hargs,rfl,rfl,h0,r0⟩:=trodAll_cons hA
 obtain⟨v1,vs1,d1,ds1,p1,q1,rfl,rfl,rfl,h1,r1⟩:=trodAll_cons r0
 obtain⟨v2,vs2,d2,ds2,p2,q2,rfl,rfl,rfl,h2,r2⟩:=trodAll_cons r1
 obtain⟨rfl,rfl,rfl⟩:=trodAll_nil r2
 obtain rfl:args = #[v0,v1,v2]:=by cases args;simp_all
 obtain⟨rfl,rfl⟩:=trodVars_none hV
 obtain⟨a0,rfl,_,_,w0⟩:=open_int Try.underlying5 (hval 0 5 _ rfl rfl) h0
 have x0:CD (hp W) (fun b=>b<W.heap.size) (SV.one (.v (.int .u8 a0))) (.int .u8 a0):=HO (H:=fun _=>none) (c:=.v _) rfl (.v _ _ rfl)
 obtain⟨a1,rfl,_,_,w1⟩:=open_int Try.underlying5 (hval 1 5 _ rfl rfl) h1
 have x1:CD (hp W) (fun b=>b<W.heap.size) (SV.one (.v (.int .u8 a1))) (.int .u8 a1):=HO (H:=fun _=>none) (c:=.v _) rfl (.v _ _ rfl)
 obtain⟨a2,rfl,_,_,w2⟩:=open_int Try.underlying24 (hval 2 24 _ rfl rfl) h2
 have x2:CD (hp W) (fun b=>b<W.heap.size) (SV.one (.v (.int .u16 a2))) (.int .u16 a2):=HO (H:=fun _=>none) (c:=.v _) rfl (.v _ _ rfl)
 clear hA0 hval0
 refine(bw Uh (a0,a1,a2,()) W ⟨(bx w0),(bx w1),(mc w2)⟩ [.int .u8 a0,.int .u8 a1,.int .u16 a2] (.bool true) rfl ?_ rfl).mono fun e W' ⟨he,hb⟩=>?_
 ·intro j v x hv hx
  rcases j with _|_|_|j
  ·have hv:SV.one (.v (.int .u8 a0))=v:=Option.some.inj hv
   have hx:(.int .u8 a0:Value)=x:=Option.some.inj hx
   rw[← hv,← hx];exact x0
  ·have hv:SV.one (.v (.int .u8 a1))=v:=Option.some.inj hv
   have hx:(.int .u8 a1:Value)=x:=Option.some.inj hx
   rw[← hv,← hx];exact x1
  ·have hv:SV.one (.v (.int .u16 a2))=v:=Option.some.inj hv
   have hx:(.int .u16 a2:Value)=x:=Option.some.inj hx
   rw[← hv,← hx];exact x2
  ·exact absurd (show ([]:List Value)[j]?=some x from hx) (by simp)
 subst he
 exact⟨_,rfl,fE hW' rfl rfl (by rw[Try.params9];intro t ht;simp only[List.mem_cons,List.not_mem_nil,or_false]at ht;rcases ht with rfl|rfl|rfl<;>exact⟨by kernel_rfl,of_decide_eq_true (by kernel_rfl)⟩) (fun _=>⟨rfl,rfl,rfl⟩) hb⟩
theorem over:Rows.witnessCountRow.holds Try.pinned (OpenSpec.ofChange Rows.witnessCountSpec):=
 OpenClaim.holds_of_wide 9 Try.f9 rfl rfl rfl rfl rfl rfl rfl ⟨rfl,rfl,rfl,rfl,rfl⟩ rfl rfl rfl rfl rfl (by kernel_rfl) Try.func9 (by kernel_rfl)
  (of_decide_eq_true (by kernel_rfl)) (by unfold Func.isWrapper;first|(rw[if_pos (by decide +kernel)];kernel_rfl)|(rw[if_neg (by decide +kernel)];exact⟨rfl,rfl⟩))
  (fun os started H enc _=>lifted os started H enc)
theorem proved:Rows.WitnessCountSaid:=over
end Go.Proofs.Ytjnnmindcbgjhaa.witnessCount
