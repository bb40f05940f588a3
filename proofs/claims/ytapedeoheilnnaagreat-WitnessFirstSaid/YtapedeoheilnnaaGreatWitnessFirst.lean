/- The statement WitnessFirst. No conditions but those in each statement. -/
import Derived.Test.YtapedeoheilnnaaGreatZt2
set_option linter.all false
namespace Go.Proofs.YtapedeoheilnnaaGreat.witnessFirst
open Go Go.Sy Go.ChangeShapes Go.WideShapes Go.ChangeAt Go.RowKit
set_option maxRecDepth 100000 in
theorem lifted(os:Os)(started:os.Started)(H:Type)(enc:TypeId×Value->H):
  ReturnsInHanded {} Tryz.checked os 5 .any (Rows.witnessFirstSpec.pre6 enc Tryz.prog Tryz.f5 Rows.witnessFirstRow.domain false) (Rows.witnessFirstSpec.post enc Tryz.prog Tryz.f5 false true false false):=by
 refine returnsInHanded_of_change (C:=Tryz.checked) A7q started (by kernel_rfl) Tryz.func5
  (ChangeSpec.witness6 (enc:=enc) (C:=Tryz.checked) false ⟨#[],#[.int .u8 0,.slice none 0 0,.int .i64 0,.slice none 0 0,.int .i64 0],[]⟩ 8 (by kernel_rfl) (by kernel_rfl) (by kernel_rfl) (by kernel_rfl)) ?_
 intro W base args ds gs before hval0 hW hcnd _
 have hval:∀(j:Nat) t v,Tryz.f5.params[j]?=some t->args[j]?=some v->Value.okWide Tryz.prog W .any base t v:=hval0
 have hW':=hW
 obtain⟨p,q,hA0,hV,rfl,hfz,hnd⟩:=hW
 have hA:DataW.TrodAll enc Tryz.prog W 0 (λ_=>true) true Tryz.f5.params.toList args.toList ds p:=hA0
 rw[Tryz.params5]at hA hval
 obtain⟨v0,vs0,d0,ds0,p0,q0,hargs,rfl,rfl,h0,r0⟩:=trodAll_cons hA
 obtain⟨v1,vs1,d1,ds1,p1,q1,rfl,rfl,rfl,h1,r1⟩:=trodAll_cons r0
 obtain⟨v2,vs2,d2,ds2,p2,q2,rfl,rfl,rfl,h2,r2⟩:=trodAll_cons r1
 obtain⟨v3,vs3,d3,ds3,p3,q3,rfl,rfl,rfl,h3,r3⟩:=trodAll_cons r2
 obtain⟨v4,vs4,d4,ds4,p4,q4,rfl,rfl,rfl,h4,r4⟩:=trodAll_cons r3
 obtain⟨rfl,rfl,rfl⟩:=trodAll_nil r4
 obtain rfl:args = #[v0,v1,v2,v3,v4]:=by cases args;simp_all
 obtain⟨rfl,rfl⟩:=trodVars_none hV
 obtain⟨a0,rfl,_,_,w0⟩:=open_int Tryz.underlying5 (hval 0 5 _ rfl rfl) h0
 have x0:CD (hp W) (λb=>b<W.heap.size) (SV.one (.v (.int .u8 a0))) (.int .u8 a0):=HN (H:=λ_=>none) (c:=.v _) rfl (.v _ _ rfl)
 obtain⟨a1,w1,x1⟩:=cW (hval 1 22 v1 rfl rfl) h1
 obtain⟨a2,rfl,_,_,w2⟩:=open_int Tryz.underlying3 (hval 2 3 _ rfl rfl) h2
 have x2:CD (hp W) (λb=>b<W.heap.size) (SV.one (.v (.int .i64 a2))) (.int .i64 a2):=HN (H:=λ_=>none) (c:=.v _) rfl (.v _ _ rfl)
 obtain⟨a3,w3,x3⟩:=kQ (hval 3 23 v3 rfl rfl) h3
 obtain⟨a4,rfl,_,_,w4⟩:=open_int Tryz.underlying3 (hval 4 3 _ rfl rfl) h4
 have x4:CD (hp W) (λb=>b<W.heap.size) (SV.one (.v (.int .i64 a4))) (.int .i64 a4):=HN (H:=λ_=>none) (c:=.v _) rfl (.v _ _ rfl)
 clear hA0 hval0
 refine(kD B0M (a0,a1,a2,a3,a4,()) W ⟨(aN w0),w1,(Xe w2),w3,(Xe w4)⟩ [.int .u8 a0,v1,.int .i64 a2,v3,.int .i64 a4] (.bool true) rfl ?_ rfl).mono λe W' ⟨he,hb⟩=>?_
 .intro j v x hv hx
  rcases j with _|_|_|_|_|j
  .have hv:SV.one (.v (.int .u8 a0))=v:=Option.some.inj hv
   have hx:(.int .u8 a0:Value)=x:=Option.some.inj hx
   rw[<- hv,<- hx];exact x0
  .have hv:SV.one (.d (.sl JB (a1.map Hu)))=v:=Option.some.inj hv
   have hx:(v1:Value)=x:=Option.some.inj hx
   rw[<- hv,<- hx];exact x1
  .have hv:SV.one (.v (.int .i64 a2))=v:=Option.some.inj hv
   have hx:(.int .i64 a2:Value)=x:=Option.some.inj hx
   rw[<- hv,<- hx];exact x2
  .have hv:SV.one (.d (.sl zIw (a3.map iD)))=v:=Option.some.inj hv
   have hx:(v3:Value)=x:=Option.some.inj hx
   rw[<- hv,<- hx];exact x3
  .have hv:SV.one (.v (.int .i64 a4))=v:=Option.some.inj hv
   have hx:(.int .i64 a4:Value)=x:=Option.some.inj hx
   rw[<- hv,<- hx];exact x4
  .exact absurd (show ([]:List Value)[j]?=some x from hx) (by simp)
 subst he
 exact⟨_,rfl,oE hW' rfl rfl (by rw[Tryz.params5];intro t ht;simp only[List.mem_cons,List.not_mem_nil,or_false]at ht;rcases ht with rfl|rfl|rfl|rfl|rfl<;>exact⟨by kernel_rfl,of_decide_eq_true (by kernel_rfl)⟩) (λ_=>⟨rfl,rfl,rfl⟩) hb⟩
theorem over:Rows.witnessFirstRow.holds Tryz.pinned (OpenSpec.ofChange Rows.witnessFirstSpec):=
 OpenClaim.holds_of_wide 5 Tryz.f5 rfl rfl rfl rfl rfl rfl rfl ⟨rfl,rfl,rfl,rfl,rfl⟩ rfl rfl rfl rfl rfl (by kernel_rfl) Tryz.func5 (by kernel_rfl)
  (of_decide_eq_true (by kernel_rfl)) (by unfold Func.isWrapper;first|(rw[if_pos (by decide +kernel)];kernel_rfl)|(rw[if_neg (by decide +kernel)];exact⟨rfl,rfl⟩))
  (λos started H enc _=>lifted os started H enc)
theorem proved:Rows.WitnessFirstSaid:=over
end Go.Proofs.YtapedeoheilnnaaGreat.witnessFirst
