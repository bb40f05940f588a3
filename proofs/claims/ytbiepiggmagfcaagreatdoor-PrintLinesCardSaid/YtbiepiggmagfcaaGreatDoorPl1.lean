/- Each line of a function's text is one of the document's lines, walked. Conditions: bytes; the table of powers of ten is laid. -/
import Derived.Test.YtbiepiggmagfcaaGreatDoorSy31
import Derived.Test.YtbiepiggmagfcaaGreatDoorOp
import Derived.Test.YtbiepiggmagfcaaGreatDoorPr6
import Derived.Test.YtbiepiggmagfcaaGreatDoorRq3
import Derived.Test.YtbiepiggmagfcaaGreatDoorTie
import Derived.Test.YtbiepiggmagfcaaGreatDoorCards
import Derived.LaidMore
import Derived.Lay
import Derived.SevenTiedAt
import Derived.Stop.Joined
import Derived.ProofKit
import Derived.OpenShut
import Derived.Lib.SmallJoins
import Derived.Carry
import Derived.Test.YtbiepiggmagfcaaGreatDoorPx1
import Derived.Lib.LaidU8
import Derived.Test.YtbiepiggmagfcaaGreatDoorMk5
set_option linter.unusedVariables false
set_option linter.unusedSimpArgs false
namespace Go.Proofs.YtbiepiggmagfcaaGreatDoor
open Go Go.Sy Go.RowKit
theorem ln_at {l:List Ln} {i:Nat} {x:Ln} (h:l[i]?=some x) (z:List D):(l.map Ln.r).getD i z=[.v (.string (bs x.t)),.v (.int .i64 x.n)]:=by simp[List.getD,h,Ln.r,dS,dI]
theorem lnX_drop {l:List Ln} {i:Nat} {x:Ln} (h:l[i]?=some x):lnX (l.drop i)=(x.t++[10])++lnX (l.drop (i+1)):=by
 rw[drop_get h,lnX_cons]
theorem drop_app (a b:List UInt8):(a++b).drop a.length=b:=by simp
abbrev yc_PrintLines (k:Int) (b:List Int):Prop:=b.length≤maxLen∧∀x∈b,0≤x∧x<256
abbrev yr_PrintLines (k:Int) (b:List Int):SV:=.one (.v (.bool true))
noncomputable abbrev ya_PrintLines:ArgC ((Int)×(List Int)×Unit):=(acS (cInt .i64) (acS (cBy) ac0))
abbrev yq_PrintLines:Prop:=CallsG Tryz.prog 4 powT ya_PrintLines (fun p:(Int)×(List Int)×Unit=>yc_PrintLines p.1 p.2.1) (fun p:(Int)×(List Int)×Unit=>yr_PrintLines p.1 p.2.1)
attribute [local go_sem] cFn_e cFn_d cBy_e cBy_d' rBy_e rBy_z zBy_ln fn_eta pairO_n pairN_o spFn_n zLn_ln lnR
set_option maxRecDepth 20000 in set_option maxHeartbeats 8000000 in
theorem y_PrintLines:yq_PrintLines:=by
 rintro ⟨k,b,_u⟩ w fz xs hT hc hfz hl hx
 have hG:=staysN_clX powT_keptB powT_size (fz:=fz) hT
 refine calls_toL Tryz.func4 rfl w fz [(yp_pknown hG),yp_Place,(yg_FnA y_FnA),(yg_rLines 5000 8 (y_rLines 5000 8)),(yg_pFunc 5000 8 (y_pFunc 5000 8) hG)] [] ya_PrintLines (fun p:(Int)×(List Int)×Unit=>yr_PrintLines p.1 p.2.1) _ xs hfz hl hx (Nat.le_of_ble_eq_true rfl) ?_
 clear hx hl hfz xs
 simp only[Tryz.f4]
 obtain⟨hbl,hby⟩:=hc
 dsimp only at hbl hby
 cases c1:decide ((150:Int)<(b.length:Int)) with
 |true=>
  simp only[↓eB,seval,go_sem,yp_pknown,yg_pknown,c1]
  try simp only[impB,impN]
  repeat' first|exact ck|with_reducible apply And.intro|intro _
  all_goals first|exact trivial|(rename_i h;first|exact oI h|exact nah h)|(rename_i _ h _ g;exact sL h g)|decide|omega|(refine ret_with [] ?_;simp only[↓eB,seval,go_sem,bne,yr_PrintLines])
 |false=>
 have hb2:=of_decide_eq_false c1
 have p0:=plF_in k
 have g1:okY b:=⟨by omega,hby⟩
 have g2:0≤plF k:=p0.1
 have R:=fnA_rq g2 g1
 obtain⟨F,hF⟩:∃F,fnA (plF k) b=F:=⟨_,rfl⟩
 rw[hF]at R
 obtain⟨R1,R2,R3,R4,R5⟩:=R
 have R6:(fnT F).length≤1000000000:=by omega
 simp only[↓eB,seval,go_sem,yp_pknown,yg_pknown,yp_Place,yr_Place,yg_FnA,yg_rLines,yg_pFunc,c1,hF,Fn.c]
 try simp only[impB,impN]
 repeat' (first|exact ck|with_reducible apply And.intro)
 all_goals try first|exact g1|exact g2|exact R1|exact R2|exact R3|exact R4|exact R6|decide|omega
 obtain⟨L,hL⟩:∃L,lnF F=L:=⟨_,rfl⟩
 have hT:(lnX L).length≤1000000000:=by rw[← hL];exact R6
 have hLl:=lnX_lens L
 have hfn:fnT F=lnX L:=by rw[← hL];rfl
 refine loop_ok (Y:=Nat) (fun z=>z≤L.length) (fun z=>⟨[(6,true,lnR L),(7,true,.one (.v (.string (bs (lnX (L.drop z)))))),(8,true,.one (.v (.int .i64 (z:Int))))],[]⟩)
  (fun z=>L.length-z) 0 (Nat.zero_le _) ?_ ?_
 ·refine to_with [] ?_;simp only[↓eB,seval,go_sem,hL,hfn,yr_pFunc]
 ·rintro i hi
  refine vc_ok [] [] _ _ _ ?_
  cases hx:L[i]? with
  |none=>
   have h2:=List.getElem?_eq_none_iff.1 hx
   have h1:=natI_ge h2
   have h3:L.drop i=[]:=List.drop_eq_nil_of_le h2
   simp only[↓eB,seval,go_sem,h1,h3,lnX_nil,beq_self_eq_true]
   try simp only[impB,impN]
   repeat' first|exact ck|with_reducible apply And.intro|intro _
   all_goals first|exact trivial|(rename_i h;first|exact oI h|exact nah h)|(rename_i _ h _ g;exact sL h g)|decide|omega|(refine ret_with [] ?_;simp only[↓eB,seval,go_sem,bne,yr_PrintLines])
  |some x=>
   have h2:=(List.getElem?_eq_some_iff.1 hx).1
   have h1:=natI_lt h2
   have h3:=ln_at hx
   have h4:=lnX_drop hx
   obtain⟨r,hr⟩:∃r,lnX (L.drop (i+1))=r:=⟨_,rfl⟩
   rw[hr]at h4
   have h5:x.t.length+1+r.length≤1000000000:=by
    have e:(lnX (L.drop i)).length≤(lnX L).length:=by
     have:=congrArg List.length (lnX_app (L.take i) (L.drop i))
     rw[List.take_append_drop,List.length_append]at this
     omega
    rw[h4]at e
    simp only[List.length_append,List.length_cons,List.length_nil]at e;omega
   have h6:x.t.length≤9223372036854775806:=by omega
   have h7:decide (((x.t++[10]++r).length:Int)<((x.t++[10]).length:Int))=false:=by
    simp only[List.length_append,List.length_cons,List.length_nil,decide_eq_false_iff_not];omega
   have h8:((x.t++[10]).length:Int)≤((x.t++[10]++r).length:Int):=by
    simp only[List.length_append,List.length_cons,List.length_nil];omega
   have h9:=natI_ltp h2
   simp only[↓eB,seval,go_sem,h1,h3,h4,h7,beq_self_eq_true]
   try simp only[impB,impN]
   repeat' (first|exact ck|with_reducible apply And.intro)
   all_goals try first|exact h6|exact h8|exact h9|exact omega|decide|omega
   refine⟨i+1,h2,(by show L.length-(i+1)<L.length-i;omega),?_⟩
   have hs:=natI_succ (n:=L.length) (i:=i) (by omega) (by omega)
   refine to_with [] ?_;simp only[↓eB,seval,go_sem,hs,hr,drop_app]
end Go.Proofs.YtbiepiggmagfcaaGreatDoor
set_option linter.unusedVariables false
set_option linter.unusedSimpArgs false
namespace Go.Proofs.YtbiepiggmagfcaaGreatDoor
open Go Go.RowKit Go.ChangeShapes Go.WideShapes Go.ChangeAt
theorem ownK:ownKnob Tryz.prog.godebug=none:=by kernel_rfl
theorem laidK:laidOutB Tryz.prog=true:=by kernel_rfl
theorem trodAll_below {H:Type} {enc:TypeId×Value→H} {P:Program} (hl:laidOutB P=true) {W W':World} (hb:Below W.heap.size W W'):∀(ts:List TypeId) (vs:List Value) (ds:List (DataW H)) (ps:List MemPlace),
  (∀t∈ts,P.readableRec t=true∧t<P.types.size)→DataW.TrodAll enc P W 0 (fun _=>true) true ts vs ds ps→(∀x∈ps,x.block<W.heap.size)→DataW.TrodAll enc P W' 0 (fun b=>decide (b<W.heap.size)) true ts vs ds ps
 |[],vs,ds,ps,_,h,_=>by
  obtain⟨rfl,rfl,rfl⟩:=trodAll_nil h
  exact trodAll_mk0
 |t::ts,vs,ds,ps,hts,h,hlt=>by
  obtain⟨v,vs',d,ds',p,q,rfl,rfl,rfl,h1,h2⟩:=trodAll_cons h
  have ht:=hts t (List.mem_cons_self ..)
  exact trodAll_cons_mk (Below.trod hl ht.1 ht.2 h1 hb fun x hx=>hlt x (List.mem_append_left _ hx))
   (trodAll_below hl hb ts vs' ds' q (fun t' ht'=>hts t' (List.mem_cons_of_mem _ ht')) h2 fun x hx=>hlt x (List.mem_append_right _ hx))
theorem law_post {H:Type} {enc:TypeId×Value→H} {f:Func} {s:ChangeSpec} {W W':World} {args:Array Value} {ds gs:List (DataW H)} {before:List MemPlace} (hW:DataW.Whole enc Tryz.prog f.params.toList s.vars false W args.toList ds gs before)
  (hv:s.vars=[]) (hr:f.resultTypes = #[4]) (hts:∀t∈f.params.toList,Tryz.prog.readableRec t=true∧t<Tryz.prog.types.size)
  (hf:gs=[]→(s.fn H (ds++gs)).results=[.lit (.bool true)]∧(s.fn H (ds++gs)).args=ds∧(s.fn H (ds++gs)).vars=[]) (hb:Below W.heap.size W W') :
  s.post enc Tryz.prog f false true false false W args (.bool true) W':=by
 have hlt:=hW.lt
 have hW0:=hW
 obtain⟨p,q,hA,hV,rfl,_,_⟩:=hW
 rw[hv]at hV
 obtain⟨rfl,rfl⟩:=trodVars_none hV
 obtain⟨f1,f2,f3⟩:=hf rfl
 refine⟨ds,[],p++[],[],p,[],hW0,?_,?_,?_,hb.frame _,fun h=>by cases h⟩
 ·rw[f1,hr]
  exact trodAll_cons_mk (shut_bool Tryz.underlying4 true) trodAll_mk0
 ·rw[f2]
  exact trodAll_below laidK hb _ _ _ _ hts hA fun x hx=>by simpa using hlt x (List.mem_append_left _ hx)
 ·rw[f3,hv];rfl
end Go.Proofs.YtbiepiggmagfcaaGreatDoor
set_option linter.unusedVariables false
set_option linter.unusedSimpArgs false
namespace Go.Proofs.YtbiepiggmagfcaaGreatDoor
open Go Go.Sy Go.RowKit Go.ChangeShapes Go.WideShapes Go.ChangeAt
theorem to_plainL {P:Program} {f:FuncId} {T:World→Prop} {A:Type} {ac:ArgC A} {Cd:A→Prop} {F:A→SV} (h:CallsG P f T ac Cd F) (a:A) (w:World) (hT:T w) (hc:Cd a) (vals:List Value) (val:Value) (hl:vals.length=(ac.e a).length)
  (h1:∀(j:Nat) (v:SV) (x:Value),(ac.e a)[j]?=some v→vals[j]?=some x→CD (hp w) (fun b=>b<w.heap.size) v x)
  (h2:clos (F a)=some val):Calls P f vals.toArray w (fun e w'=>e= .returned val∧Below w.heap.size w w'):=by
 refine(h a w (fun b=>b<w.heap.size) vals hT hc (fun _ h=>h) hl h1).mono ?_
 rintro e w' ⟨v,x,fz',rfl,rfl,g1,g2,g3,g4,g5,g6⟩
 rw[sd_clos g5 h2]
 exact⟨rfl,g6⟩
theorem pow_data:(Rows.laid_internal_strconv_uint64pow10:DataW Unit)=Lib.tabData .u64 Lib.pow10Tab:=by kernel_rfl
theorem pow_type:((Tryz.prog.globalNamed "internal/strconv.uint64pow10").bind fun g=>(Tryz.prog.globals[g]?).map (·.type))=some 191:=by kernel_rfl
section
variable {H:Type} {enc:TypeId×Value→H} {W:World}
theorem opnF_mapR {P:Program} {t:TypeId} {fuel:Nat} {A B:Type} {e:A→List D} {Q:A→Prop} (f:A→B) (e':B→List D) (Q':B→Prop) (h:OpnF enc P W t fuel e Q) (hl:∀a,(e' (f a)).length=(e a).length)
  (hr:∀a (j:Nat) (d':D),(e' (f a))[j]?=some d'→∃d,(e a)[j]?=some d∧∀v,Rd (hp W) (fun b=>b<W.heap.size) d v→Rd (hp W) (fun b=>b<W.heap.size) d' v) (hq:∀a,Q a→Q' (f a)):OpnF enc P W t fuel e' Q':=by
 intro cs x hx
 obtain⟨a,h1,h2,h3⟩:=h cs x hx
 refine⟨f a,hq a h1,by rw[hl];exact h2,fun j d' hj=>?_⟩
 obtain⟨d,g1,g2⟩:=hr a j d' hj
 obtain⟨v,g3,g4⟩:=h3 j d g1
 exact⟨v,g3,g2 v g4⟩
theorem wf_w64 {n:Int} (h:(Lit.int .i64 n).wf=true):w64 n:=by
 have:=bounds_i64 h;exact⟨by omega,by omega⟩
abbrev ExT:Type:=Int×Int×List UInt8×Ex×Ex×Unit
def exTf:Option ExT→Ex
 |none=>.nil
 |some (k,n,s,a,b,_)=>.mk k n s a b
def exTe (p:ExT):List D:=[dI p.1]++([dI p.2.1]++([dS p.2.2.1]++([p.2.2.2.1.d]++([p.2.2.2.2.1.d]++[]))))
def exTq (p:ExT):Prop:=(Lit.int .i64 p.1).wf=true∧(Lit.int .i64 p.2.1).wf=true∧p.2.2.1.length≤maxLen∧okN p.2.2.2.1∧okN p.2.2.2.2.1∧True
set_option maxRecDepth 100000 in
mutual
theorem opn_ex:∀fuel,OpnF enc Tryz.prog W 68 fuel (fun e:Ex=>[e.d]) okN
 |0=>opnF_zero
 |n+1=>by
  refine opnF_mapR exTf _ _ (opnF_ptr Tryz.underlying68 (Nat.lt_of_lt_of_eq (Nat.succ_pos 4) (by kernel_rfl)) (opn_exS n)) (fun _=>rfl) ?_ ?_
  ·rintro o j d' hj
   cases j with
   |zero=>
    simp only[List.getElem?_cons_zero,Option.some.injEq]at hj
    subst hj
    cases o with
    |none=>exact⟨_,rfl,fun v r=>by cases r;exact .v _ rfl⟩
    |some u=>exact⟨_,rfl,fun v r=>r⟩
   |succ j=>simp at hj
  ·intro o ho
   cases o with
   |none=>trivial
   |some u=>
    obtain⟨h1,h2,h3,h4,h5,_⟩:=ho u rfl
    exact⟨wf_w64 h2,h4,h5⟩
theorem opn_exS:∀fuel,OpnF enc Tryz.prog W 70 fuel exTe exTq
 |0=>opnF_zero
 |n+1=>by
  refine opnF_map (e':=exTe) (Q':=exTq) id (h:=opnF_struct (n:=5) Tryz.underlying70 (by kernel_rfl) (opnL_cons (m:=1) (n:=4) rfl (by kernel_rfl) (opnF_int Tryz.underlying3) (opnL_cons (m:=1) (n:=3) rfl (by kernel_rfl) (opnF_int Tryz.underlying2) (opnL_cons (m:=1) (n:=2) rfl (by kernel_rfl) (opnF_str Tryz.underlying9) (opnL_cons (m:=1) (n:=1) rfl (by kernel_rfl) (opn_ex n) (opnL_cons (m:=1) (n:=0) rfl (by kernel_rfl) (opn_ex n) (opnL_nil _))))))) (he:=fun _=>rfl) (hq:=fun _ h=>h)
end
end
end Go.Proofs.YtbiepiggmagfcaaGreatDoor
set_option linter.unusedVariables false
set_option linter.unusedSimpArgs false
namespace Go.Proofs.YtbiepiggmagfcaaGreatDoor
open Go Go.Sy Go.RowKit Go.ChangeShapes Go.WideShapes Go.ChangeAt
section
variable {H:Type} {enc:TypeId×Value→H} {W:World} {base:Nat} {v:Value} {d:DataW H} {p:List MemPlace}
theorem wf_byte {n:Int} (h:(Lit.int .u8 n).wf=true):0≤n∧n<256:=by
 have:=bounds_u8 h;omega
theorem opn_bytes:Opn enc Tryz.prog W 22 (fun l:List Int=>[.sl zBy (l.map byD)]) (fun l=>l.length≤maxLen∧∀x∈l,0≤x∧x<256):=by
 intro fuel
 cases fuel with
 |zero=>exact opnF_zero
 |succ n=>exact opnF_map id _ _ (opnF_slice Tryz.underlying22 zBy (by kernel_rfl) (by decide) (opnF_int Tryz.underlying5)) (fun _=>rfl) (fun _ h=>⟨h.1,fun x hx=>wf_byte (h.2 x hx)⟩)
set_option maxRecDepth 100000 in
theorem open_bytes (hv:Value.okWide Tryz.prog W .any base 22 v) (h:DataW.Trod enc Tryz.prog W 0 (fun _=>true) true 22 v d p) :
  ∃a:List Int,(a.length≤maxLen∧∀x∈a,0≤x∧x<256)∧CD (hp W) (fun b=>b<W.heap.size) (.one (.d (.sl zBy (a.map byD)))) v:=
 open_one (r:=.any) (base:=base) (f:=fun l:List Int=>.sl zBy (l.map byD)) (okWide_sl Tryz.underlying22 hv) h opn_bytes
end
end Go.Proofs.YtbiepiggmagfcaaGreatDoor
set_option linter.unusedVariables false
set_option linter.unusedSimpArgs false
namespace Go.Proofs.YtbiepiggmagfcaaGreatDoor
open Go Go.Sy Go.RowKit Go.ChangeShapes Go.WideShapes Go.ChangeAt
theorem powT_printLines {W:World} (h:laidMetH Tryz.prog Rows.printLinesRow.laid W):powT W:=by
 rw[MakeChecks.laidMetH_plain _ _ _ (by kernel_rfl)]at h
 obtain⟨g,t,cs,fuel,p,h1,h2,h3,h4⟩:=Lib.laidMet.reads h (n := "internal/strconv.uint64pow10") (d:=Rows.laid_internal_strconv_uint64pow10) (.tail _ (.tail _ (.head _)))
 have h5:=pow_type
 rw[h1,Option.bind_some,h2]at h5
 obtain rfl:=Option.some.inj h5
 rw[pow_data]at h4
 unfold powT Lib.TabIs
 rw[h3,← Lib.cells_of_tab Tryz.underlying191 Tryz.underlying139 (by kernel_rfl) (by kernel_rfl) h4]
theorem c_PrintLines (k:Int) (hk:(Lit.int .i64 k).wf=true) (b:List Int) (v:Value) (hb:b.length≤maxLen∧∀x∈b,0≤x∧x<256) (W:World) (hx:CD (hp W) (fun b=>b<W.heap.size) (.one (.d (.sl zBy (b.map byD)))) v) (hT:powT W) :
  Calls Tryz.prog 4 #[.int .i64 k,v] W (fun en W'=>en= .returned (.bool true)∧Below W.heap.size W W'):=by
 refine to_plainL y_PrintLines (k,b,()) W hT hb [.int .i64 k,v] (.bool true) rfl ?_ rfl
 intro j u x h1 h2
 rcases j with _|_|j
 ·obtain rfl:Value.int .i64 k=x:=Option.some.inj h2
  obtain rfl:SV.one (.v (.int .i64 k))=u:=Option.some.inj h1
  exact sc_of (H:=fun _=>none) (c:=.v _) rfl (.v _ _ rfl)
 ·obtain rfl:v=x:=Option.some.inj h2
  obtain rfl:SV.one (.d (.sl zBy (b.map byD)))=u:=Option.some.inj h1
  exact hx
 ·exact absurd (show ([]:List Value)[j]?=some x from h2) (by simp)
end Go.Proofs.YtbiepiggmagfcaaGreatDoor
