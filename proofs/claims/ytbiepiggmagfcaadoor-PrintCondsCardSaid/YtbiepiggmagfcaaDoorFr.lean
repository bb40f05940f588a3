/- From a walk that returns true and leaves what was there to the row's statement. No conditions but those in each statement. -/
import Derived.Test.YtbiepiggmagfcaaDoorTie
import Derived.Test.YtbiepiggmagfcaaDoorCards
import Derived.LaidMore
import Derived.Lay
import Derived.SevenTiedAt
import Derived.Stop.Joined
import Derived.ProofKit
import Derived.OpenShut
import Derived.Lib.SmallJoins
import Derived.Carry
import Derived.Test.YtbiepiggmagfcaaDoorOp
import Derived.Test.YtbiepiggmagfcaaDoorPx1
import Derived.Lib.LaidU8
import Derived.Test.YtbiepiggmagfcaaDoorMk1
import Derived.Test.YtbiepiggmagfcaaDoorCm1
set_option linter.unusedVariables false
set_option linter.unusedSimpArgs false
namespace Go.Proofs.YtbiepiggmagfcaaDoor
open Go Go.RowKit Go.ChangeShapes Go.WideShapes Go.ChangeAt
theorem ownK:ownKnob Tryd.prog.godebug=none:=by kernel_rfl
theorem laidK:laidOutB Tryd.prog=true:=by kernel_rfl
theorem trodAll_below {H:Type} {enc:TypeId×Value→H} {P:Program} (hl:laidOutB P=true) {W W':World} (hb:Below W.heap.size W W'):∀(ts:List TypeId) (vs:List Value) (ds:List (DataW H)) (ps:List MemPlace),
  (∀t∈ts,P.readableRec t=true∧t<P.types.size)→DataW.TrodAll enc P W 0 (fun _=>true) true ts vs ds ps→(∀x∈ps,x.block<W.heap.size)→DataW.TrodAll enc P W' 0 (fun b=>decide (b<W.heap.size)) true ts vs ds ps
 |[],vs,ds,ps,_,h,_=>by
  obtain⟨rfl,rfl,rfl⟩:=trodAll_nil h
  exact trodAll_mk0
 |t::ts,vs,ds,ps,hts,h,hlt=>by
  obtain⟨v,vs',d,ds',p,q,rfl,rfl,rfl,h1,h2⟩:=trodAll_cons h
  have ht:=hts t (List.mem_cons_self ..)
  exact trodAll_cons_mk (Below.trod hl ht.1 ht.2 h1 hb fun x hx=>hlt x (List.mem_append_left _ hx))
   (trodAll_below hl hb ts vs' ds' q (fun t' ht'=>hts t' (List.mem_cons_of_mem _ ht')) h2 fun x hx=>hlt x (List.mem_append_right _ hx))
theorem law_post {H:Type} {enc:TypeId×Value→H} {f:Func} {s:ChangeSpec} {W W':World} {args:Array Value} {ds gs:List (DataW H)} {before:List MemPlace} (hW:DataW.Whole enc Tryd.prog f.params.toList s.vars false W args.toList ds gs before)
  (hv:s.vars=[]) (hr:f.resultTypes = #[4]) (hts:∀t∈f.params.toList,Tryd.prog.readableRec t=true∧t<Tryd.prog.types.size)
  (hf:gs=[]→(s.fn H (ds++gs)).results=[.lit (.bool true)]∧(s.fn H (ds++gs)).args=ds∧(s.fn H (ds++gs)).vars=[]) (hb:Below W.heap.size W W') :
  s.post enc Tryd.prog f false true false false W args (.bool true) W':=by
 have hlt:=hW.lt
 have hW0:=hW
 obtain⟨p,q,hA,hV,rfl,_,_⟩:=hW
 rw[hv]at hV
 obtain⟨rfl,rfl⟩:=trodVars_none hV
 obtain⟨f1,f2,f3⟩:=hf rfl
 refine⟨ds,[],p++[],[],p,[],hW0,?_,?_,?_,hb.frame _,fun h=>by cases h⟩
 ·rw[f1,hr]
  exact trodAll_cons_mk (shut_bool Tryd.underlying4 true) trodAll_mk0
 ·rw[f2]
  exact trodAll_below laidK hb _ _ _ _ hts hA fun x hx=>by simpa using hlt x (List.mem_append_left _ hx)
 ·rw[f3,hv];rfl
end Go.Proofs.YtbiepiggmagfcaaDoor
namespace Go.Proofs.YtbiepiggmagfcaaDoor
open Go Go.Sy Go.RowKit Go.ChangeShapes Go.WideShapes Go.ChangeAt
theorem to_plainL {P:Program} {f:FuncId} {T:World→Prop} {A:Type} {ac:ArgC A} {Cd:A→Prop} {F:A→SV} (h:CallsG P f T ac Cd F) (a:A) (w:World) (hT:T w) (hc:Cd a) (vals:List Value) (val:Value) (hl:vals.length=(ac.e a).length)
  (h1:∀(j:Nat) (v:SV) (x:Value),(ac.e a)[j]?=some v→vals[j]?=some x→CD (hp w) (fun b=>b<w.heap.size) v x)
  (h2:clos (F a)=some val):Calls P f vals.toArray w (fun e w'=>e= .returned val∧Below w.heap.size w w'):=by
 refine(h a w (fun b=>b<w.heap.size) vals hT hc (fun _ h=>h) hl h1).mono ?_
 rintro e w' ⟨v,x,fz',rfl,rfl,g1,g2,g3,g4,g5,g6⟩
 rw[sd_clos g5 h2]
 exact⟨rfl,g6⟩
theorem pow_data:(Rows.laid_internal_strconv_uint64pow10:DataW Unit)=Lib.tabData .u64 Lib.pow10Tab:=by kernel_rfl
theorem pow_type:((Tryd.prog.globalNamed "internal/strconv.uint64pow10").bind fun g=>(Tryd.prog.globals[g]?).map (·.type))=some 128:=by kernel_rfl
section
variable {H:Type} {enc:TypeId×Value→H} {W:World}
theorem opnF_mapR {P:Program} {t:TypeId} {fuel:Nat} {A B:Type} {e:A→List D} {Q:A→Prop} (f:A→B) (e':B→List D) (Q':B→Prop) (h:OpnF enc P W t fuel e Q) (hl:∀a,(e' (f a)).length=(e a).length)
  (hr:∀a (j:Nat) (d':D),(e' (f a))[j]?=some d'→∃d,(e a)[j]?=some d∧∀v,Rd (hp W) (fun b=>b<W.heap.size) d v→Rd (hp W) (fun b=>b<W.heap.size) d' v) (hq:∀a,Q a→Q' (f a)):OpnF enc P W t fuel e' Q':=by
 intro cs x hx
 obtain⟨a,h1,h2,h3⟩:=h cs x hx
 refine⟨f a,hq a h1,by rw[hl];exact h2,fun j d' hj=>?_⟩
 obtain⟨d,g1,g2⟩:=hr a j d' hj
 obtain⟨v,g3,g4⟩:=h3 j d g1
 exact⟨v,g3,g2 v g4⟩
theorem wf_w64 {n:Int} (h:(Lit.int .i64 n).wf=true):w64 n:=by
 have:=bounds_i64 h;exact⟨by omega,by omega⟩
abbrev ExT:Type:=Int×Int×List UInt8×Ex×Ex×Unit
def exTf:Option ExT→Ex
 |none=>.nil
 |some (k,n,s,a,b,_)=>.mk k n s a b
def exTe (p:ExT):List D:=[dI p.1]++([dI p.2.1]++([dS p.2.2.1]++([p.2.2.2.1.d]++([p.2.2.2.2.1.d]++[]))))
def exTq (p:ExT):Prop:=(Lit.int .i64 p.1).wf=true∧(Lit.int .i64 p.2.1).wf=true∧p.2.2.1.length≤maxLen∧okN p.2.2.2.1∧okN p.2.2.2.2.1∧True
set_option maxRecDepth 100000 in
mutual
theorem opn_ex:∀fuel,OpnF enc Tryd.prog W 22 fuel (fun e:Ex=>[e.d]) okN
 |0=>opnF_zero
 |n+1=>by
  refine opnF_mapR exTf _ _ (opnF_ptr Tryd.underlying22 (Nat.lt_of_lt_of_eq (Nat.succ_pos 4) (by kernel_rfl)) (opn_exS n)) (fun _=>rfl) ?_ ?_
  ·rintro o j d' hj
   cases j with
   |zero=>
    simp only[List.getElem?_cons_zero,Option.some.injEq]at hj
    subst hj
    cases o with
    |none=>exact⟨_,rfl,fun v r=>by cases r;exact .v _ rfl⟩
    |some u=>exact⟨_,rfl,fun v r=>r⟩
   |succ j=>simp at hj
  ·intro o ho
   cases o with
   |none=>trivial
   |some u=>
    obtain⟨h1,h2,h3,h4,h5,_⟩:=ho u rfl
    exact⟨wf_w64 h2,h4,h5⟩
theorem opn_exS:∀fuel,OpnF enc Tryd.prog W 51 fuel exTe exTq
 |0=>opnF_zero
 |n+1=>by
  refine opnF_map (e':=exTe) (Q':=exTq) id (h:=opnF_struct (n:=5) Tryd.underlying51 (by kernel_rfl) (opnL_cons (m:=1) (n:=4) rfl (by kernel_rfl) (opnF_int Tryd.underlying3) (opnL_cons (m:=1) (n:=3) rfl (by kernel_rfl) (opnF_int Tryd.underlying2) (opnL_cons (m:=1) (n:=2) rfl (by kernel_rfl) (opnF_str Tryd.underlying9) (opnL_cons (m:=1) (n:=1) rfl (by kernel_rfl) (opn_ex n) (opnL_cons (m:=1) (n:=0) rfl (by kernel_rfl) (opn_ex n) (opnL_nil _))))))) (he:=fun _=>rfl) (hq:=fun _ h=>h)
end
end
end Go.Proofs.YtbiepiggmagfcaaDoor
namespace Go.Proofs.YtbiepiggmagfcaaDoor
open Go Go.Sy Go.RowKit Go.ChangeShapes Go.WideShapes Go.ChangeAt
section
variable {H:Type} {enc:TypeId×Value→H} {W:World} {base:Nat} {v:Value} {d:DataW H} {p:List MemPlace}
theorem wf_byte {n:Int} (h:(Lit.int .u8 n).wf=true):0≤n∧n<256:=by
 have:=bounds_u8 h;omega
theorem opn_bytes:Opn enc Tryd.prog W 28 (fun l:List Int=>[.sl zBy (l.map byD)]) (fun l=>l.length≤maxLen∧∀x∈l,0≤x∧x<256):=by
 intro fuel
 cases fuel with
 |zero=>exact opnF_zero
 |succ n=>exact opnF_map id _ _ (opnF_slice Tryd.underlying28 zBy (by kernel_rfl) (by decide) (opnF_int Tryd.underlying5)) (fun _=>rfl) (fun _ h=>⟨h.1,fun x hx=>wf_byte (h.2 x hx)⟩)
set_option maxRecDepth 100000 in
theorem open_bytes (hv:Value.okWide Tryd.prog W .any base 28 v) (h:DataW.Trod enc Tryd.prog W 0 (fun _=>true) true 28 v d p) :
  ∃a:List Int,(a.length≤maxLen∧∀x∈a,0≤x∧x<256)∧CD (hp W) (fun b=>b<W.heap.size) (.one (.d (.sl zBy (a.map byD)))) v:=
 open_one (r:=.any) (base:=base) (f:=fun l:List Int=>.sl zBy (l.map byD)) (okWide_sl Tryd.underlying28 hv) h opn_bytes
end
end Go.Proofs.YtbiepiggmagfcaaDoor
namespace Go.Proofs.YtbiepiggmagfcaaDoor
open Go Go.Sy Go.RowKit Go.ChangeShapes Go.WideShapes Go.ChangeAt
theorem powT_printConds {W:World} (h:laidMetH Tryd.prog Rows.printCondsRow.laid W):powT W:=by
 rw[MakeChecks.laidMetH_plain _ _ _ (by kernel_rfl)]at h
 obtain⟨g,t,cs,fuel,p,h1,h2,h3,h4⟩:=Lib.laidMet.reads h (n := "internal/strconv.uint64pow10") (d:=Rows.laid_internal_strconv_uint64pow10) (.tail _ (.tail _ (.head _)))
 have h5:=pow_type
 rw[h1,Option.bind_some,h2]at h5
 obtain rfl:=Option.some.inj h5
 rw[pow_data]at h4
 unfold powT Lib.TabIs
 rw[h3,← Lib.cells_of_tab Tryd.underlying128 Tryd.underlying102 (by kernel_rfl) (by kernel_rfl) h4]
theorem c_PrintConds (b:List Int) (v:Value) (hb:b.length≤maxLen∧∀x∈b,0≤x∧x<256) (W:World) (hx:CD (hp W) (fun b=>b<W.heap.size) (.one (.d (.sl zBy (b.map byD)))) v) (hT:powT W) :
  Calls Tryd.prog 5 #[v] W (fun en W'=>en= .returned (.bool true)∧Below W.heap.size W W'):=by
 refine to_plainL y_PrintConds (b,()) W hT hb [v] (.bool true) rfl ?_ rfl
 intro j u x h1 h2
 rcases j with _|j
 ·obtain rfl:v=x:=Option.some.inj h2
  obtain rfl:SV.one (.d (.sl zBy (b.map byD)))=u:=Option.some.inj h1
  exact hx
 ·exact absurd (show ([]:List Value)[j]?=some x from h2) (by simp)
end Go.Proofs.YtbiepiggmagfcaaDoor
