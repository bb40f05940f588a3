/- The statement RunState. No conditions but those in each statement. -/
import Derived.Test.YtjnnmindcbgjhaaFu2
import Derived.Test.YtjnnmindcbgjhaaRst
set_option linter.unusedVariables false
set_option linter.unusedSimpArgs false
namespace Go.Proofs.Ytjnnmindcbgjhaa.runState
open Go Go.Sy Go.ChangeShapes Go.WideShapes Go.ChangeAt Go.RowKit
set_option maxRecDepth 100000 in
theorem lifted (os:Os) (started:os.Started) (H:Type) (enc:TypeId×Value→H) :
  ReturnsInHanded {} Try.checked os 4 .any (Rows.runStateSpec.pre6 enc Try.prog Try.f4 Rows.runStateRow.domain false) (Rows.runStateSpec.post enc Try.prog Try.f4 false true false false):=by
 refine returnsInHanded_of_change (C:=Try.checked) A6d started (by kernel_rfl) Try.func4
  (ChangeSpec.witness6 (enc:=enc) (C:=Try.checked) false ⟨#[],#[.int .u8 0,.slice none 0 0,.agg #[.slice none 0 0,.slice none 0 0],.string ⟨#[]⟩,.int .i64 0],[]⟩ 8 (by kernel_rfl) (by kernel_rfl) (by kernel_rfl) (by kernel_rfl)) ?_
 intro W base args ds gs before hval0 hW hcnd _
 have hval:∀(j:Nat) t v,Try.f4.params[j]?=some t→args[j]?=some v→Value.okWide Try.prog W .any base t v:=hval0
 have hW':=hW
 obtain⟨p,q,hA0,hV,rfl,hfz,hnd⟩:=hW
 have hA:DataW.TrodAll enc Try.prog W 0 (fun _=>true) true Try.f4.params.toList args.toList ds p:=hA0
 rw[Try.params4]at hA hval
 obtain⟨v0,vs0,d0,ds0,p0,q0,hargs,rfl,rfl,h0,r0⟩:=trodAll_cons hA
 obtain⟨v1,vs1,d1,ds1,p1,q1,rfl,rfl,rfl,h1,r1⟩:=trodAll_cons r0
 obtain⟨v2,vs2,d2,ds2,p2,q2,rfl,rfl,rfl,h2,r2⟩:=trodAll_cons r1
 obtain⟨v3,vs3,d3,ds3,p3,q3,rfl,rfl,rfl,h3,r3⟩:=trodAll_cons r2
 obtain⟨v4,vs4,d4,ds4,p4,q4,rfl,rfl,rfl,h4,r4⟩:=trodAll_cons r3
 obtain⟨rfl,rfl,rfl⟩:=trodAll_nil r4
 obtain rfl:args = #[v0,v1,v2,v3,v4]:=by cases args;simp_all
 obtain⟨rfl,rfl⟩:=trodVars_none hV
 obtain⟨a0,rfl,_,_,w0⟩:=open_int Try.underlying5 (hval 0 5 _ rfl rfl) h0
 have x0:CD (hp W) (fun b=>b<W.heap.size) (SV.one (.v (.int .u8 a0))) (.int .u8 a0):=Gp (H:=fun _=>none) (c:=.v _) rfl (.v _ _ rfl)
 obtain⟨a1,w1,x1⟩:=Yc (hval 1 22 v1 rfl rfl) h1
 obtain⟨a2,w2,x2⟩:=iu (hval 2 44 v2 rfl rfl) h2
 obtain⟨a3,rfl,_,_,w3⟩:=Go.ChangeMaps.open_string Try.underlying9 (hval 3 9 v3 rfl rfl) h3
 have x3:CD (hp W) (fun b=>b<W.heap.size) (SV.one (.v (.string (bs a3.data.toList)))) (.string a3):=by rw[pk];exact Gp (H:=fun _=>none) (c:=.v _) rfl (.v _ _ rfl)
 obtain⟨a4,rfl,_,_,w4⟩:=open_int Try.underlying2 (hval 4 2 _ rfl rfl) h4
 have x4:CD (hp W) (fun b=>b<W.heap.size) (SV.one (.v (.int .i64 a4))) (.int .i64 a4):=Gp (H:=fun _=>none) (c:=.v _) rfl (.v _ _ rfl)
 clear hA0 hval0
 refine(eS aW (a0,a1,a2,a3.data.toList,a4,()) W ⟨(eT w0),w1,w2,(u7 w3),(Zl w4)⟩ [.int .u8 a0,v1,v2,.string a3,.int .i64 a4] (.bool true) rfl ?_ rfl).mono fun e W' ⟨he,hb⟩=>?_
 ·intro j v x hv hx
  rcases j with _|_|_|_|_|j
  ·have hv:SV.one (.v (.int .u8 a0))=v:=Option.some.inj hv
   have hx:(.int .u8 a0:Value)=x:=Option.some.inj hx
   rw[← hv,← hx];exact x0
  ·have hv:SV.one (.d (.sl IR (a1.map Gx)))=v:=Option.some.inj hv
   have hx:(v1:Value)=x:=Option.some.inj hx
   rw[← hv,← hx];exact x1
  ·have hv:SV.agg (stR a2)=v:=Option.some.inj hv
   have hx:(v2:Value)=x:=Option.some.inj hx
   rw[← hv,← hx];exact x2
  ·have hv:SV.one (.v (.string (bs a3.data.toList)))=v:=Option.some.inj hv
   have hx:(.string a3:Value)=x:=Option.some.inj hx
   rw[← hv,← hx];exact x3
  ·have hv:SV.one (.v (.int .i64 a4))=v:=Option.some.inj hv
   have hx:(.int .i64 a4:Value)=x:=Option.some.inj hx
   rw[← hv,← hx];exact x4
  ·exact absurd (show ([]:List Value)[j]?=some x from hx) (by simp)
 subst he
 exact⟨_,rfl,il hW' rfl rfl (by rw[Try.params4];intro t ht;simp only[List.mem_cons,List.not_mem_nil,or_false]at ht;rcases ht with rfl|rfl|rfl|rfl|rfl<;>exact⟨by kernel_rfl,of_decide_eq_true (by kernel_rfl)⟩) (fun _=>⟨rfl,rfl,rfl⟩) hb⟩
theorem over:Rows.runStateRow.holds Try.pinned (OpenSpec.ofChange Rows.runStateSpec):=
 OpenClaim.holds_of_wide 4 Try.f4 rfl rfl rfl rfl rfl rfl rfl ⟨rfl,rfl,rfl,rfl,rfl⟩ rfl rfl rfl rfl rfl (by kernel_rfl) Try.func4 (by kernel_rfl)
  (of_decide_eq_true (by kernel_rfl)) (by unfold Func.isWrapper;first|(rw[if_pos (by decide +kernel)];kernel_rfl)|(rw[if_neg (by decide +kernel)];exact⟨rfl,rfl⟩))
  (fun os started H enc _=>lifted os started H enc)
theorem proved:Rows.RunStateSaid:=over
end Go.Proofs.Ytjnnmindcbgjhaa.runState
