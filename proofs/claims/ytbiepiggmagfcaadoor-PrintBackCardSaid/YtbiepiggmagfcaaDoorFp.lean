/- Which place a number names. No conditions but those in each statement. -/
import Derived.Test.YtbiepiggmagfcaaDoorMk5
import Derived.Test.YtbiepiggmagfcaaDoorRq4
import Derived.Test.YtbiepiggmagfcaaDoorBk2
import Derived.Test.YtbiepiggmagfcaaDoorBk3
import Derived.Test.YtbiepiggmagfcaaDoorSy31
import Derived.Test.YtbiepiggmagfcaaDoorPa9
import Derived.Test.YtbiepiggmagfcaaDoorTie
import Derived.Test.YtbiepiggmagfcaaDoorCards
import Derived.LaidMore
import Derived.Lay
import Derived.SevenTiedAt
import Derived.Stop.Joined
import Derived.ProofKit
import Derived.OpenShut
import Derived.Lib.SmallJoins
import Derived.Carry
import Derived.Test.YtbiepiggmagfcaaDoorPx1
import Derived.Lib.LaidU8
set_option linter.unusedVariables false
set_option linter.unusedSimpArgs false
namespace Go.Proofs.YtbiepiggmagfcaaDoor
open Go Go.Sy Go.RowKit
theorem cBy_d' (l:List Int):cBy.d (.one (.d (.sl zBy (l.map byD))))=some l:=cBy_d l
theorem zBy_ln:zBy.length=1:=rfl
noncomputable def rBy:RowC Int:=rowOf zBy byD by_inj fun _=>rfl
theorem rBy_e:rBy.e=byD:=rfl
theorem rBy_z:rBy.z=zBy:=rfl
def plF (k:Int):Int:=if decide (k.tmod 4<0)=true then w64i (k.tmod 4+4) else k.tmod 4
theorem tmodk (k:Int) : -4<k.tmod 4∧k.tmod 4<4:=by
 refine⟨?_,Int.tmod_lt_of_pos k (by decide)⟩
 have:=Int.tmod_lt_of_pos (-k) (b:=4) (by decide)
 rw[Int.neg_tmod]at this
 omega
theorem plF_in (k:Int):0≤plF k∧plF k<4:=by
 have:=tmodk k
 unfold plF
 split
 ·rename_i h
  have h:=of_decide_eq_true h
  unfold w64i;rw[wrap_i64 (by omega) (by omega)];omega
 ·rename_i h
  simp only[decide_eq_true_eq]at h
  omega
abbrev yc_Place (k:Int) (n:Int):Prop:=n=4
abbrev yr_Place (k:Int) (n:Int):SV:=SV.one (.v (.int .i64 (plF k)))
set_option maxRecDepth 20000 in set_option maxHeartbeats 4000000 in
theorem y_Place:CallsY Tryd.prog 14 (acS (cInt .i64) (acS (cInt .i64) ac0)) (fun p:(Int×(Int×Unit))=>yc_Place p.1 p.2.1) (fun p:(Int×(Int×Unit))=>yr_Place p.1 p.2.1):=by
 rintro ⟨k,n,_u⟩ w fz xs hc hfz hl hx
 refine calls_toL Tryd.func14 rfl w fz [] [] (acS (cInt .i64) (acS (cInt .i64) ac0)) (fun p:(Int×(Int×Unit))=>yr_Place p.1 p.2.1) _ xs hfz hl hx (Nat.le_of_ble_eq_true rfl) ?_
 clear hx hl hfz xs
 simp only[Tryd.f14]
 have hc:n=4:=hc
 subst hc
 have h1:=tmodk k
 cases h2:decide (k.tmod 4<0) with
 |true=>
  have hr:plF k=w64i (k.tmod 4+4):=by unfold plF;rw[if_pos h2]
  simp only[↓eB,seval,go_sem,h2]
  try simp only[impB,impN]
  repeat' first|exact ck|with_reducible apply And.intro|intro _
  all_goals first|exact h1|(rename_i h;first|exact oI h|exact nah h)|(rename_i _ h _ g;exact sL h g)|decide|omega|(refine ret_with [] ?_;simp only[↓eB,seval,go_sem,bne,yr_Place,hr])
 |false=>
  have hr:plF k=k.tmod 4:=by unfold plF;rw[if_neg (by rw[h2];decide)]
  simp only[↓eB,seval,go_sem,h2]
  try simp only[impB,impN]
  repeat' first|exact ck|with_reducible apply And.intro|intro _
  all_goals first|exact h1|(rename_i h;first|exact oI h|exact nah h)|(rename_i _ h _ g;exact sL h g)|decide|omega|(refine ret_with [] ?_;simp only[↓eB,seval,go_sem,bne,yr_Place,hr])
theorem yn_Place:∀p:(Int×(Int×Unit)),((fun p:(Int×(Int×Unit))=>yr_Place p.1 p.2.1) p).names=[]:=by intro p;first|rfl|simp[SV.names,C.names]
noncomputable def yp_Place {X:Ctx} {w0:World}:Sy.Spec Tryd.prog X w0:=specD 14 Tryd.call14 (acS (cInt .i64) (acS (cInt .i64) ac0)) (fun p:(Int×(Int×Unit))=>yc_Place p.1 p.2.1) (fun p:(Int×(Int×Unit))=>yr_Place p.1 p.2.1) yn_Place y_Place
end Go.Proofs.YtbiepiggmagfcaaDoor
namespace Go.Proofs.YtbiepiggmagfcaaDoor
open Go Go.Sy Go.RowKit
theorem okPr_B {n:Nat}:∀{m:Nat} {l:List Sm},okPr n m l→okB n m l
 |0,_,h=>h.elim
 |m+1,l,h=>⟨h.1,fun s hs=>⟨(h.2 s hs).1.ok,okPr_B (h.2 s hs).2.1,okPr_B (h.2 s hs).2.2⟩⟩
abbrev yc_PrintBack (k:Int) (b:List Int):Prop:=b.length≤maxLen∧∀x∈b,0≤x∧x<256
abbrev yr_PrintBack (k:Int) (b:List Int):SV:=.one (.v (.bool true))
noncomputable abbrev ya_PrintBack:ArgC ((Int)×(List Int)×Unit):=(acS (cInt .i64) (acS (cBy) ac0))
abbrev yq_PrintBack:Prop:=CallsG Tryd.prog 4 powT ya_PrintBack (fun p:(Int)×(List Int)×Unit=>yc_PrintBack p.1 p.2.1) (fun p:(Int)×(List Int)×Unit=>yr_PrintBack p.1 p.2.1)
attribute [local go_sem] cBy_d' cBy_e cFn_d cFn_e fn_eta pairN_o pairO_n rBy_e rBy_z spFn_n yg_pknown yp_pknown zBy_ln
set_option maxRecDepth 20000 in set_option maxHeartbeats 8000000 in
theorem y_PrintBack:yq_PrintBack:=by
 rintro ⟨k,b,_u⟩ w fz xs hT hc hfz hl hx
 have hG:=staysN_clX powT_keptB powT_size (fz:=fz) hT
 refine calls_toL Tryd.func4 rfl w fz [(yp_pknown hG),yp_Place,yp_Text,yp_Func,(yg_pFunc 5000 8 (y_pFunc 5000 8) hG),(yg_eqF 5000 8 (y_eqF 5000 8))] [] ya_PrintBack (fun p:(Int)×(List Int)×Unit=>yr_PrintBack p.1 p.2.1) _ xs hfz hl hx (Nat.le_of_ble_eq_true rfl) ?_
 clear hx hl hfz xs
 simp only[Tryd.f4]
 obtain⟨hbl,hby⟩:=hc
 dsimp only at hbl hby
 cases c1:decide ((150:Int)<(b.length:Int)) with
 |true=>
  simp only[↓eB,seval,go_sem,c1]
  try simp only[impB,impN]
  repeat' first|exact ck|with_reducible apply And.intro|intro _
  all_goals first|exact trivial|(rename_i h;first|exact oI h|exact nah h)|(rename_i _ h _ g;exact sL h g)|decide|omega|(refine ret_with [] ?_;simp only[↓eB,seval,go_sem,bne,yr_PrintBack])
 |false=>
 have hb2:=of_decide_eq_false c1
 have p0:=plF_in k
 have g1:okY b:=⟨by omega,hby⟩
 have g2:0≤plF k:=p0.1
 obtain⟨f,mq,hF,_,t1,t2⟩:=mk_fun g2 g1
 have R:=cf_rq mq t1 t2
 have hback:=back_fun mq
 have hsm:smallB (txT (plF k) b):=by
  have:=mq.l
  unfold smallB;omega
 obtain⟨F,hFv⟩:∃F,f.v=F:=⟨_,rfl⟩
 rw[hFv]at hF hback R
 obtain⟨R1,R2,R3,R4,R5⟩:=R
 have R6:(fnT F).length≤1000000000:=by omega
 cases c2:decide ((4096:Int)<((fnT F).length:Int)) with
 |true=>
  simp only[↓eB,seval,go_sem,yp_Place,yr_Place,yp_Text,yr_Text,yp_Func,yr_Func,yg_pFunc,c1,c2,hF,Fn.c]
  try simp only[impB,impN]
  repeat' first|exact ck|with_reducible apply And.intro|intro _
  all_goals first|exact g1|exact g2|exact R1|exact R3|exact R4|exact R6|exact hsm|(rename_i h;first|exact oI h|exact nah h)|(rename_i _ h _ g;exact sL h g)|decide|omega|(refine ret_with [] ?_;simp only[↓eB,seval,go_sem,bne,yr_PrintBack])
 |false=>
 have hl2:=of_decide_eq_false c2
 have hB:=hback (by omega)
 have hsm2:smallB (fnT F):=by unfold smallB;omega
 have g6:yc_eqF 5000 8 F F:=⟨rfl,okPr_B R1,by omega,by omega⟩
 simp only[↓eB,seval,go_sem,yp_Place,yr_Place,yp_Text,yr_Text,yp_Func,yr_Func,yg_pFunc,yg_eqF,c1,c2,hF,hB,Fn.c,beq_self_eq_true]
 try simp only[impB,impN]
 repeat' first|exact ck|with_reducible apply And.intro|intro _
 all_goals first|exact g1|exact g2|exact R1|exact R3|exact R4|exact R6|exact hsm|exact hsm2|exact g6.2.1|exact g6.2.2.1|exact g6.2.2.2|exact rfl|(rename_i h;first|exact oI h|exact nah h)|(rename_i _ h _ g;exact sL h g)|decide|omega|(refine ret_with [] ?_;simp only[↓eB,seval,go_sem,bne,yr_PrintBack])
end Go.Proofs.YtbiepiggmagfcaaDoor
namespace Go.Proofs.YtbiepiggmagfcaaDoor
open Go Go.RowKit Go.ChangeShapes Go.WideShapes Go.ChangeAt
theorem ownK:ownKnob Tryd.prog.godebug=none:=by kernel_rfl
theorem laidK:laidOutB Tryd.prog=true:=by kernel_rfl
theorem trodAll_below {H:Type} {enc:TypeId×Value→H} {P:Program} (hl:laidOutB P=true) {W W':World} (hb:Below W.heap.size W W'):∀(ts:List TypeId) (vs:List Value) (ds:List (DataW H)) (ps:List MemPlace),
  (∀t∈ts,P.readableRec t=true∧t<P.types.size)→DataW.TrodAll enc P W 0 (fun _=>true) true ts vs ds ps→(∀x∈ps,x.block<W.heap.size)→DataW.TrodAll enc P W' 0 (fun b=>decide (b<W.heap.size)) true ts vs ds ps
 |[],vs,ds,ps,_,h,_=>by
  obtain⟨rfl,rfl,rfl⟩:=trodAll_nil h
  exact trodAll_mk0
 |t::ts,vs,ds,ps,hts,h,hlt=>by
  obtain⟨v,vs',d,ds',p,q,rfl,rfl,rfl,h1,h2⟩:=trodAll_cons h
  have ht:=hts t (List.mem_cons_self ..)
  exact trodAll_cons_mk (Below.trod hl ht.1 ht.2 h1 hb fun x hx=>hlt x (List.mem_append_left _ hx))
   (trodAll_below hl hb ts vs' ds' q (fun t' ht'=>hts t' (List.mem_cons_of_mem _ ht')) h2 fun x hx=>hlt x (List.mem_append_right _ hx))
theorem law_post {H:Type} {enc:TypeId×Value→H} {f:Func} {s:ChangeSpec} {W W':World} {args:Array Value} {ds gs:List (DataW H)} {before:List MemPlace} (hW:DataW.Whole enc Tryd.prog f.params.toList s.vars false W args.toList ds gs before)
  (hv:s.vars=[]) (hr:f.resultTypes = #[4]) (hts:∀t∈f.params.toList,Tryd.prog.readableRec t=true∧t<Tryd.prog.types.size)
  (hf:gs=[]→(s.fn H (ds++gs)).results=[.lit (.bool true)]∧(s.fn H (ds++gs)).args=ds∧(s.fn H (ds++gs)).vars=[]) (hb:Below W.heap.size W W') :
  s.post enc Tryd.prog f false true false false W args (.bool true) W':=by
 have hlt:=hW.lt
 have hW0:=hW
 obtain⟨p,q,hA,hV,rfl,_,_⟩:=hW
 rw[hv]at hV
 obtain⟨rfl,rfl⟩:=trodVars_none hV
 obtain⟨f1,f2,f3⟩:=hf rfl
 refine⟨ds,[],p++[],[],p,[],hW0,?_,?_,?_,hb.frame _,fun h=>by cases h⟩
 ·rw[f1,hr]
  exact trodAll_cons_mk (shut_bool Tryd.underlying4 true) trodAll_mk0
 ·rw[f2]
  exact trodAll_below laidK hb _ _ _ _ hts hA fun x hx=>by simpa using hlt x (List.mem_append_left _ hx)
 ·rw[f3,hv];rfl
end Go.Proofs.YtbiepiggmagfcaaDoor
namespace Go.Proofs.YtbiepiggmagfcaaDoor
open Go Go.Sy Go.RowKit Go.ChangeShapes Go.WideShapes Go.ChangeAt
theorem to_plainL {P:Program} {f:FuncId} {T:World→Prop} {A:Type} {ac:ArgC A} {Cd:A→Prop} {F:A→SV} (h:CallsG P f T ac Cd F) (a:A) (w:World) (hT:T w) (hc:Cd a) (vals:List Value) (val:Value) (hl:vals.length=(ac.e a).length)
  (h1:∀(j:Nat) (v:SV) (x:Value),(ac.e a)[j]?=some v→vals[j]?=some x→CD (hp w) (fun b=>b<w.heap.size) v x)
  (h2:clos (F a)=some val):Calls P f vals.toArray w (fun e w'=>e= .returned val∧Below w.heap.size w w'):=by
 refine(h a w (fun b=>b<w.heap.size) vals hT hc (fun _ h=>h) hl h1).mono ?_
 rintro e w' ⟨v,x,fz',rfl,rfl,g1,g2,g3,g4,g5,g6⟩
 rw[sd_clos g5 h2]
 exact⟨rfl,g6⟩
theorem pow_data:(Rows.laid_internal_strconv_uint64pow10:DataW Unit)=Lib.tabData .u64 Lib.pow10Tab:=by kernel_rfl
theorem pow_type:((Tryd.prog.globalNamed "internal/strconv.uint64pow10").bind fun g=>(Tryd.prog.globals[g]?).map (·.type))=some 128:=by kernel_rfl
section
variable {H:Type} {enc:TypeId×Value→H} {W:World}
theorem opnF_mapR {P:Program} {t:TypeId} {fuel:Nat} {A B:Type} {e:A→List D} {Q:A→Prop} (f:A→B) (e':B→List D) (Q':B→Prop) (h:OpnF enc P W t fuel e Q) (hl:∀a,(e' (f a)).length=(e a).length)
  (hr:∀a (j:Nat) (d':D),(e' (f a))[j]?=some d'→∃d,(e a)[j]?=some d∧∀v,Rd (hp W) (fun b=>b<W.heap.size) d v→Rd (hp W) (fun b=>b<W.heap.size) d' v) (hq:∀a,Q a→Q' (f a)):OpnF enc P W t fuel e' Q':=by
 intro cs x hx
 obtain⟨a,h1,h2,h3⟩:=h cs x hx
 refine⟨f a,hq a h1,by rw[hl];exact h2,fun j d' hj=>?_⟩
 obtain⟨d,g1,g2⟩:=hr a j d' hj
 obtain⟨v,g3,g4⟩:=h3 j d g1
 exact⟨v,g3,g2 v g4⟩
theorem wf_w64 {n:Int} (h:(Lit.int .i64 n).wf=true):w64 n:=by
 have:=bounds_i64 h;exact⟨by omega,by omega⟩
abbrev ExT:Type:=Int×Int×List UInt8×Ex×Ex×Unit
def exTf:Option ExT→Ex
 |none=>.nil
 |some (k,n,s,a,b,_)=>.mk k n s a b
def exTe (p:ExT):List D:=[dI p.1]++([dI p.2.1]++([dS p.2.2.1]++([p.2.2.2.1.d]++([p.2.2.2.2.1.d]++[]))))
def exTq (p:ExT):Prop:=(Lit.int .i64 p.1).wf=true∧(Lit.int .i64 p.2.1).wf=true∧p.2.2.1.length≤maxLen∧okN p.2.2.2.1∧okN p.2.2.2.2.1∧True
set_option maxRecDepth 100000 in
mutual
theorem opn_ex:∀fuel,OpnF enc Tryd.prog W 22 fuel (fun e:Ex=>[e.d]) okN
 |0=>opnF_zero
 |n+1=>by
  refine opnF_mapR exTf _ _ (opnF_ptr Tryd.underlying22 (Nat.lt_of_lt_of_eq (Nat.succ_pos 4) (by kernel_rfl)) (opn_exS n)) (fun _=>rfl) ?_ ?_
  ·rintro o j d' hj
   cases j with
   |zero=>
    simp only[List.getElem?_cons_zero,Option.some.injEq]at hj
    subst hj
    cases o with
    |none=>exact⟨_,rfl,fun v r=>by cases r;exact .v _ rfl⟩
    |some u=>exact⟨_,rfl,fun v r=>r⟩
   |succ j=>simp at hj
  ·intro o ho
   cases o with
   |none=>trivial
   |some u=>
    obtain⟨h1,h2,h3,h4,h5,_⟩:=ho u rfl
    exact⟨wf_w64 h2,h4,h5⟩
theorem opn_exS:∀fuel,OpnF enc Tryd.prog W 51 fuel exTe exTq
 |0=>opnF_zero
 |n+1=>by
  refine opnF_map (e':=exTe) (Q':=exTq) id (h:=opnF_struct (n:=5) Tryd.underlying51 (by kernel_rfl) (opnL_cons (m:=1) (n:=4) rfl (by kernel_rfl) (opnF_int Tryd.underlying3) (opnL_cons (m:=1) (n:=3) rfl (by kernel_rfl) (opnF_int Tryd.underlying2) (opnL_cons (m:=1) (n:=2) rfl (by kernel_rfl) (opnF_str Tryd.underlying9) (opnL_cons (m:=1) (n:=1) rfl (by kernel_rfl) (opn_ex n) (opnL_cons (m:=1) (n:=0) rfl (by kernel_rfl) (opn_ex n) (opnL_nil _))))))) (he:=fun _=>rfl) (hq:=fun _ h=>h)
end
end
end Go.Proofs.YtbiepiggmagfcaaDoor
namespace Go.Proofs.YtbiepiggmagfcaaDoor
open Go Go.Sy Go.RowKit Go.ChangeShapes Go.WideShapes Go.ChangeAt
section
variable {H:Type} {enc:TypeId×Value→H} {W:World} {base:Nat} {v:Value} {d:DataW H} {p:List MemPlace}
theorem wf_byte {n:Int} (h:(Lit.int .u8 n).wf=true):0≤n∧n<256:=by
 have:=bounds_u8 h;omega
theorem opn_bytes:Opn enc Tryd.prog W 28 (fun l:List Int=>[.sl zBy (l.map byD)]) (fun l=>l.length≤maxLen∧∀x∈l,0≤x∧x<256):=by
 intro fuel
 cases fuel with
 |zero=>exact opnF_zero
 |succ n=>exact opnF_map id _ _ (opnF_slice Tryd.underlying28 zBy (by kernel_rfl) (by decide) (opnF_int Tryd.underlying5)) (fun _=>rfl) (fun _ h=>⟨h.1,fun x hx=>wf_byte (h.2 x hx)⟩)
set_option maxRecDepth 100000 in
theorem open_bytes (hv:Value.okWide Tryd.prog W .any base 28 v) (h:DataW.Trod enc Tryd.prog W 0 (fun _=>true) true 28 v d p) :
  ∃a:List Int,(a.length≤maxLen∧∀x∈a,0≤x∧x<256)∧CD (hp W) (fun b=>b<W.heap.size) (.one (.d (.sl zBy (a.map byD)))) v:=
 open_one (r:=.any) (base:=base) (f:=fun l:List Int=>.sl zBy (l.map byD)) (okWide_sl Tryd.underlying28 hv) h opn_bytes
end
end Go.Proofs.YtbiepiggmagfcaaDoor
namespace Go.Proofs.YtbiepiggmagfcaaDoor
open Go Go.Sy Go.RowKit Go.ChangeShapes Go.WideShapes Go.ChangeAt
theorem powT_printBack {W:World} (h:laidMetH Tryd.prog Rows.printBackRow.laid W):powT W:=by
 rw[MakeChecks.laidMetH_plain _ _ _ (by kernel_rfl)]at h
 obtain⟨g,t,cs,fuel,p,h1,h2,h3,h4⟩:=Lib.laidMet.reads h (n := "internal/strconv.uint64pow10") (d:=Rows.laid_internal_strconv_uint64pow10) (.tail _ (.tail _ (.head _)))
 have h5:=pow_type
 rw[h1,Option.bind_some,h2]at h5
 obtain rfl:=Option.some.inj h5
 rw[pow_data]at h4
 unfold powT Lib.TabIs
 rw[h3,← Lib.cells_of_tab Tryd.underlying128 Tryd.underlying102 (by kernel_rfl) (by kernel_rfl) h4]
theorem c_PrintBack (k:Int) (hk:(Lit.int .i64 k).wf=true) (b:List Int) (v:Value) (hb:b.length≤maxLen∧∀x∈b,0≤x∧x<256) (W:World) (hx:CD (hp W) (fun b=>b<W.heap.size) (.one (.d (.sl zBy (b.map byD)))) v) (hT:powT W) :
  Calls Tryd.prog 4 #[.int .i64 k,v] W (fun en W'=>en= .returned (.bool true)∧Below W.heap.size W W'):=by
 refine to_plainL y_PrintBack (k,b,()) W hT hb [.int .i64 k,v] (.bool true) rfl ?_ rfl
 intro j u x h1 h2
 rcases j with _|_|j
 ·obtain rfl:Value.int .i64 k=x:=Option.some.inj h2
  obtain rfl:SV.one (.v (.int .i64 k))=u:=Option.some.inj h1
  exact sc_of (H:=fun _=>none) (c:=.v _) rfl (.v _ _ rfl)
 ·obtain rfl:v=x:=Option.some.inj h2
  obtain rfl:SV.one (.d (.sl zBy (b.map byD)))=u:=Option.some.inj h1
  exact hx
 ·exact absurd (show ([]:List Value)[j]?=some x from h2) (by simp)
end Go.Proofs.YtbiepiggmagfcaaDoor
