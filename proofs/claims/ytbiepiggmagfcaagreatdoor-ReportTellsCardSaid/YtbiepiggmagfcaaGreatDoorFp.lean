/- Which place a number names. No conditions but those in each statement. -/
import Derived.Test.YtbiepiggmagfcaaGreatDoorMk5
import Derived.Test.YtbiepiggmagfcaaGreatDoorRp15
import Derived.Test.YtbiepiggmagfcaaGreatDoorTie
import Derived.Test.YtbiepiggmagfcaaGreatDoorCards
import Derived.LaidMore
import Derived.Lay
import Derived.SevenTiedAt
import Derived.Stop.Joined
import Derived.ProofKit
import Derived.OpenShut
import Derived.Lib.SmallJoins
import Derived.Carry
import Derived.Test.YtbiepiggmagfcaaGreatDoorPx1
import Derived.Lib.LaidU8
import Derived.Test.YtbiepiggmagfcaaGreatDoorRp13
set_option linter.unusedVariables false
set_option linter.unusedSimpArgs false
set_option maxRecDepth 100000
set_option maxHeartbeats 8000000
namespace Go.Proofs.YtbiepiggmagfcaaGreatDoor
open Go Go.Sy Go.RowKit
theorem vV (l:List Int):cBy.d (.one (.d (.sl zBy (l.map byD))))=some l:=bR l
theorem vW:zBy.length=1:=rfl
def plF (k:Int):Int:=if decide (k.tmod 4<0)=true then Ad (k.tmod 4+4) else k.tmod 4
theorem mW (k:Int) : -4<k.tmod 4∧k.tmod 4<4:=by
 refine⟨?_,Int.tmod_lt_of_pos k (by decide)⟩
 have:=Int.tmod_lt_of_pos (-k) (b:=4) (by decide)
 rw[Int.neg_tmod]at this
 omega
theorem vX (k:Int):0≤plF k∧plF k<4:=by
 have:=mW k
 unfold plF
 split
 ·rename_i h
  have h:=of_decide_eq_true h
  unfold Ad;rw[wrap_i64 (by omega) (by omega)];omega
 ·rename_i h
  simp only[decide_eq_true_eq]at h
  omega
abbrev WT (k:Int) (n:Int):Prop:=n=4
abbrev Gi (k:Int) (n:Int):SV:=SV.one (.v (.int .i64 (plF k)))
theorem oL:AP Tryz.prog 9 (acS (cInt .i64) (acS (cInt .i64) ac0)) (fun p:(Int×(Int×Unit))=>WT p.1 p.2.1) (fun p:(Int×(Int×Unit))=>Gi p.1 p.2.1):=by
 rintro ⟨k,n,_u⟩ w fz xs hc hfz hl hx
 refine A9 Tryz.func9 rfl w fz [] [] (acS (cInt .i64) (acS (cInt .i64) ac0)) (fun p:(Int×(Int×Unit))=>Gi p.1 p.2.1) _ xs hfz hl hx (jN rfl) ?_
 clear hx hl hfz xs
 simp only[Tryz.f9]
 have hc:n=4:=hc
 subst hc
 have h1:=mW k
 cases h2:decide (k.tmod 4<0) with
 |true=>
  have hr:plF k=Ad (k.tmod 4+4):=by unfold plF;rw[if_pos h2]
  simp only[↓eB,seval,go_sem,h2]
  try simp only[A1,A2]
  repeat' first|exact ck|with_reducible apply And.intro|intro _
  all_goals first|exact h1|(rename_i h;first|exact oI h|exact nah h)|(rename_i _ h _ g;exact sL h g)|decide|omega|(refine A0 [] ?_;simp only[↓eB,seval,go_sem,bne,Gi,hr])
 |false=>
  have hr:plF k=k.tmod 4:=by unfold plF;rw[if_neg (by rw[h2];decide)]
  simp only[↓eB,seval,go_sem,h2]
  try simp only[A1,A2]
  repeat' first|exact ck|with_reducible apply And.intro|intro _
  all_goals first|exact h1|(rename_i h;first|exact oI h|exact nah h)|(rename_i _ h _ g;exact sL h g)|decide|omega|(refine A0 [] ?_;simp only[↓eB,seval,go_sem,bne,Gi,hr])
theorem jH:∀p:(Int×(Int×Unit)),((fun p:(Int×(Int×Unit))=>Gi p.1 p.2.1) p).names=[]:=by intro p;first|rfl|simp[SV.names,C.names]
noncomputable def RC {X:Ctx} {w0:World}:Sy.Spec Tryz.prog X w0:=Am 9 Tryz.call9 (acS (cInt .i64) (acS (cInt .i64) ac0)) (fun p:(Int×(Int×Unit))=>WT p.1 p.2.1) (fun p:(Int×(Int×Unit))=>Gi p.1 p.2.1) jH oL
end Go.Proofs.YtbiepiggmagfcaaGreatDoor
namespace Go.Proofs.YtbiepiggmagfcaaGreatDoor
open Go Go.Sy Go.Shelf Go.RowKit
def WU (x:Su):Prop:=wIv x.v∧w64 (alN x.al)
abbrev Tt (k:Int) (b:List Int) (A:List Al) (N:List Nt) (u:List Su):Prop:=(b.length≤maxLen∧∀x∈b,0≤x∧x<256)∧(∀x∈u,WU x)
abbrev CR (k:Int) (b:List Int) (A:List Al) (N:List Nt) (u:List Su):SV:=.one (.v (.bool true))
noncomputable abbrev Ms:ArgC ((Int)×(List Int)×(List Al)×(List Nt)×(List Su)×Unit):=(acS (cInt .i64) (acS (cBy) (acS (cAs) (acS (cNs) (acS (cUs) ac0)))))
abbrev Tu:Prop:=Cn Tryz.prog 5 AY Ms (fun p:(Int)×(List Int)×(List Al)×(List Nt)×(List Su)×Unit=>Tt p.1 p.2.1 p.2.2.1 p.2.2.2.1 p.2.2.2.2.1) (fun p:(Int)×(List Int)×(List Al)×(List Nt)×(List Su)×Unit=>CR p.1 p.2.1 p.2.2.1 p.2.2.2.1 p.2.2.2.2.1)
attribute [local go_sem] Fn.c Sp bw vV bQ Ht Jc bz bx WH cP GU Dm Dl Ev Wy Xo TE OW Pd OG RC Re OQ gb Gi Fj TG vW zFn TH Xl
theorem Vl:Tu:=by
 rintro ⟨k,b,A,N,u,_u⟩ w fz xs hT hc hfz hl hx
 have hG:=Cj Br DA (fz:=fz) hT
 refine A9 Tryz.func5 rfl w fz [(OQ hG),RC,(Wy nD),(OG 5000 8 (PY 5000 8) hG),(OW 5000 8 (VS 5000 8)),(Re hG),(Pd Rf)] [] Ms (fun p:(Int)×(List Int)×(List Al)×(List Nt)×(List Su)×Unit=>CR p.1 p.2.1 p.2.2.1 p.2.2.2.1 p.2.2.2.2.1) _ xs hfz hl hx (jN rfl) ?_
 clear hx hl hfz xs
 simp only[Tryz.f5]
 obtain⟨⟨hbl,hby⟩,hu⟩:=hc
 dsimp only at hbl hby hu
 cases c1:decide ((150:Int)<(b.length:Int)) with
 |true=>
  simp only[↓eB,seval,go_sem,c1]
  try simp only[A1,A2]
  repeat' first|exact ck|with_reducible apply And.intro|intro _
  all_goals first|exact trivial|(rename_i h;first|exact oI h|exact nah h)|(rename_i _ h _ g;exact sL h g)|decide|omega|(refine A0 [] ?_;simp only[↓eB,seval,go_sem,bne,CR])
 |false=>
 cases c2:decide ((30:Int)<(A.length:Int)) with
 |true=>
  simp only[↓eB,seval,go_sem,c1,c2]
  try simp only[A1,A2]
  repeat' first|exact ck|with_reducible apply And.intro|intro _
  all_goals first|exact trivial|(rename_i h;first|exact oI h|exact nah h)|(rename_i _ h _ g;exact sL h g)|decide|omega|(refine A0 [] ?_;simp only[↓eB,seval,go_sem,bne,CR])
 |false=>
 cases c3:decide ((30:Int)<(N.length:Int)) with
 |true=>
  simp only[↓eB,seval,go_sem,c1,c2,c3]
  try simp only[A1,A2]
  repeat' first|exact ck|with_reducible apply And.intro|intro _
  all_goals first|exact trivial|(rename_i h;first|exact oI h|exact nah h)|(rename_i _ h _ g;exact sL h g)|decide|omega|(refine A0 [] ?_;simp only[↓eB,seval,go_sem,bne,CR])
 |false=>
 cases c4:decide ((20:Int)<(u.length:Int)) with
 |true=>
  simp only[↓eB,seval,go_sem,c1,c2,c3,c4]
  try simp only[A1,A2]
  repeat' first|exact ck|with_reducible apply And.intro|intro _
  all_goals first|exact trivial|(rename_i h;first|exact oI h|exact nah h)|(rename_i _ h _ g;exact sL h g)|decide|omega|(refine A0 [] ?_;simp only[↓eB,seval,go_sem,bne,CR])
 |false=>
 have hb2:=of_decide_eq_false c1
 have hA2:=of_decide_eq_false c2
 have hN2:=of_decide_eq_false c3
 have hU2:=of_decide_eq_false c4
 have p0:=vX k
 have g1:okY b:=⟨by omega,hby⟩
 have g2:0≤plF k:=p0.1
 have R:=wt g2 g1
 have r:=xe g2 g1
 obtain⟨F,hF⟩:∃F,fnA (plF k) b=F:=⟨_,rfl⟩
 rw[hF]at R r
 obtain⟨ok,hl⟩:=gS R r (A:=A) (N:=N) (by omega) (by omega)
 have hj:=Xc r A N
 obtain⟨R1,R2,R3,R4,R5⟩:=R
 have R6:(fnT F).length≤1000000000:=by omega
 have A3:A.length≤1000:=by omega
 have N3:N.length≤1000:=by omega
 simp only[↓eB,seval,go_sem,c1,c2,c3,c4,hF]
 try simp only[A1,A2]
 repeat' (first|exact ck|with_reducible apply And.intro)
 all_goals try first|exact g1|exact g2|decide|omega
 refine AH (Y:=Nat) (fun z=>z≤u.length∧∀x∈u.take z,x.n.length≤50)
  (fun z=>⟨[(2,true,.one (.d (.sl zAl (A.map Al.r)))),(3,true,.one (.d (.sl zNt (N.map Nt.r)))),(4,true,.one (.d (.sl zSu (u.map Su.r)))),(11,true,.one (.p 11 0 0)),(12,true,.one (.v (.int .i64 (z:Int))))],[(11,.vec 0 [.v (.string (bs [])),.v (.slice none 0 0),.v (.slice none 0 0),.v (.slice none 0 0)] [F.c])]⟩)
  (fun z=>u.length-z) 0 ⟨Nat.zero_le _,fun x hx=>by simp at hx⟩ ?_ ?_
 ·refine A4 [] ?_;simp only[↓eB,seval,go_sem]
 ·rintro z ⟨hz,hzn⟩
  refine Ab [OQ hG,RC,Wy nD,OG 5000 8 (PY 5000 8) hG,OW 5000 8 (VS 5000 8),Re hG,Pd Rf] [] _ _ _ ?_
  cases hx:u[z]? with
  |none=>
   have e2:=List.getElem?_eq_none_iff.1 hx
   have e1:=Ao e2
   have e3:u.take z=u:=List.take_of_length_le e2
   rw[e3]at hzn
   have hok:∀x∈u,okSu x:=fun x hx=>⟨hzn x hx,(hu x hx).1,(hu x hx).2⟩
   have hul:u.length≤1000:=by omega
   simp only[↓eB,seval,go_sem,e1,hj,beq_self_eq_true]
   try simp only[A1,A2]
   repeat' (first|exact ck|with_reducible apply And.intro)
   all_goals try first|exact R1|exact R2|exact ok|decide|omega
   try simp only[A1,A2]
   repeat' first|exact ck|with_reducible apply And.intro|intro _
   all_goals first|exact ok|exact hl|exact R1|exact R2|exact R3|exact R4|exact R6|exact A3|exact N3|exact hul|exact hok|(exact hok _ (by assumption))|exact rfl|(rename_i h;first|exact oI h|exact nah h)|(rename_i _ h _ g;exact sL h g)|decide|omega|(refine A0 [] ?_;simp only[↓eB,seval,go_sem,bne,CR])
  |some x=>
   have e2:=(List.getElem?_eq_some_iff.1 hx).1
   have e1:=Ah e2
   have e4:=AX e2
   have e5:=AM (n:=u.length) (Nat.le_of_lt e2) (by omega)
   obtain⟨n,al,e,⟨s,lo,hi⟩,md⟩:=x
   have e3:=cQ hx
   cases c5:decide ((50:Int)<(n.length:Int)) with
   |true=>
    simp only[↓eB,seval,go_sem,e1,e3,c5]
    try simp only[A1,A2]
    repeat' first|exact ck|with_reducible apply And.intro|intro _
    all_goals first|exact e4|(rename_i h;first|exact oI h|exact nah h)|(rename_i _ h _ g;exact sL h g)|decide|omega|(refine A0 [] ?_;simp only[↓eB,seval,go_sem,bne,CR])
   |false=>
    have hn:=of_decide_eq_false c5
    simp only[↓eB,seval,go_sem,e1,e3,c5]
    try simp only[A1,A2]
    repeat' first|exact ck|with_reducible apply And.intro|intro _
    all_goals try first|exact e4|(rename_i h;first|exact oI h|exact nah h)|(rename_i _ h _ g;exact sL h g)|decide|omega
    refine⟨z+1,⟨e2,fun x hx'=>?_⟩,by omega,A4 [] ?_⟩
    ·rw[Pg hx]at hx'
     rcases List.mem_append.1 hx' with h|h
     ·exact hzn x h
     ·rw[List.mem_singleton.1 h];dsimp only;omega
    ·simp only[↓eB,seval,go_sem,e5]
end Go.Proofs.YtbiepiggmagfcaaGreatDoor
namespace Go.Proofs.YtbiepiggmagfcaaGreatDoor
open Go Go.Sy Go.RowKit Go.ChangeShapes Go.WideShapes Go.ChangeAt
section
variable {H:Type} {enc:TypeId×Value→H} {W:World} {base:Nat} {v:Value} {d:DataW H} {p:List MemPlace}
theorem oM {n:Int} (h:(Lit.int .u8 n).wf=true):0≤n∧n<256:=by
 have:=bounds_u8 h;omega
theorem eO:Opn enc Tryz.prog W 22 (fun l:List Int=>[.sl zBy (l.map byD)]) (fun l=>l.length≤maxLen∧∀x∈l,0≤x∧x<256):=by
 intro fuel
 cases fuel with
 |zero=>exact CV
 |succ n=>exact DK id _ _ (I5 Tryz.underlying22 zBy (by kernel_rfl) (by decide) (El Tryz.underlying5)) (fun _=>rfl) (fun _ h=>⟨h.1,fun x hx=>oM (h.2 x hx)⟩)
theorem bF (hv:Value.okWide Tryz.prog W .any base 22 v) (h:DataW.Trod enc Tryz.prog W 0 (fun _=>true) true 22 v d p) :
  ∃a:List Int,(a.length≤maxLen∧∀x∈a,0≤x∧x<256)∧CD (hp W) (fun b=>b<W.heap.size) (.one (.d (.sl zBy (a.map byD)))) v:=
 OS (r:=.any) (base:=base) (f:=fun l:List Int=>.sl zBy (l.map byD)) (MO Tryz.underlying22 hv) h eO
end
end Go.Proofs.YtbiepiggmagfcaaGreatDoor
namespace Go.Proofs.YtbiepiggmagfcaaGreatDoor
open Go Go.RowKit Go.ChangeShapes Go.WideShapes Go.ChangeAt
theorem A7M:ownKnob Tryz.prog.godebug=none:=by kernel_rfl
theorem A1i:laidOutB Tryz.prog=true:=by kernel_rfl
theorem Ov {H:Type} {enc:TypeId×Value→H} {P:Program} (hl:laidOutB P=true) {W W':World} (hb:Below W.heap.size W W'):∀(ts:List TypeId) (vs:List Value) (ds:List (DataW H)) (ps:List MemPlace),
  (∀t∈ts,P.readableRec t=true∧t<P.types.size)→DataW.TrodAll enc P W 0 (fun _=>true) true ts vs ds ps→(∀x∈ps,x.block<W.heap.size)→DataW.TrodAll enc P W' 0 (fun b=>decide (b<W.heap.size)) true ts vs ds ps
 |[],vs,ds,ps,_,h,_=>by
  obtain⟨rfl,rfl,rfl⟩:=trodAll_nil h
  exact trodAll_mk0
 |t::ts,vs,ds,ps,hts,h,hlt=>by
  obtain⟨v,vs',d,ds',p,q,rfl,rfl,rfl,h1,h2⟩:=trodAll_cons h
  have ht:=hts t (List.mem_cons_self ..)
  exact trodAll_cons_mk (Below.trod hl ht.1 ht.2 h1 hb fun x hx=>hlt x (List.mem_append_left _ hx))
   (Ov hl hb ts vs' ds' q (fun t' ht'=>hts t' (List.mem_cons_of_mem _ ht')) h2 fun x hx=>hlt x (List.mem_append_right _ hx))
theorem jI {H:Type} {enc:TypeId×Value→H} {f:Func} {s:ChangeSpec} {W W':World} {args:Array Value} {ds gs:List (DataW H)} {before:List MemPlace} (hW:DataW.Whole enc Tryz.prog f.params.toList s.vars false W args.toList ds gs before)
  (hv:s.vars=[]) (hr:f.resultTypes = #[4]) (hts:∀t∈f.params.toList,Tryz.prog.readableRec t=true∧t<Tryz.prog.types.size)
  (hf:gs=[]→(s.fn H (ds++gs)).results=[.lit (.bool true)]∧(s.fn H (ds++gs)).args=ds∧(s.fn H (ds++gs)).vars=[]) (hb:Below W.heap.size W W') :
  s.post enc Tryz.prog f false true false false W args (.bool true) W':=by
 have hlt:=hW.lt
 have hW0:=hW
 obtain⟨p,q,hA,hV,rfl,_,_⟩:=hW
 rw[hv]at hV
 obtain⟨rfl,rfl⟩:=trodVars_none hV
 obtain⟨f1,f2,f3⟩:=hf rfl
 refine⟨ds,[],p++[],[],p,[],hW0,?_,?_,?_,hb.frame _,fun h=>by cases h⟩
 ·rw[f1,hr]
  exact trodAll_cons_mk (shut_bool Tryz.underlying4 true) trodAll_mk0
 ·rw[f2]
  exact Ov A1i hb _ _ _ _ hts hA fun x hx=>by simpa using hlt x (List.mem_append_left _ hx)
 ·rw[f3,hv];rfl
end Go.Proofs.YtbiepiggmagfcaaGreatDoor
namespace Go.Proofs.YtbiepiggmagfcaaGreatDoor
open Go Go.Sy Go.RowKit Go.ChangeShapes Go.WideShapes Go.ChangeAt
theorem eP {P:Program} {f:FuncId} {T:World→Prop} {A:Type} {ac:ArgC A} {Cd:A→Prop} {F:A→SV} (h:Cn P f T ac Cd F) (a:A) (w:World) (hT:T w) (hc:Cd a) (vals:List Value) (val:Value) (hl:vals.length=(ac.e a).length)
  (h1:∀(j:Nat) (v:SV) (x:Value),(ac.e a)[j]?=some v→vals[j]?=some x→CD (hp w) (fun b=>b<w.heap.size) v x)
  (h2:II (F a)=some val):Calls P f vals.toArray w (fun e w'=>e= .returned val∧Below w.heap.size w w'):=by
 refine(h a w (fun b=>b<w.heap.size) vals hT hc (fun _ h=>h) hl h1).mono ?_
 rintro e w' ⟨v,x,fz',rfl,rfl,g1,g2,g3,g4,g5,g6⟩
 rw[CF g5 h2]
 exact⟨rfl,g6⟩
theorem jJ:(Rows.laid_internal_strconv_uint64pow10:DataW Unit)=Lib.tabData .u64 Lib.pow10Tab:=by kernel_rfl
theorem jK:((Tryz.prog.globalNamed "internal/strconv.uint64pow10").bind fun g=>(Tryz.prog.globals[g]?).map (·.type))=some 191:=by kernel_rfl
section
variable {H:Type} {enc:TypeId×Value→H} {W:World}
theorem eQ {P:Program} {t:TypeId} {fuel:Nat} {A B:Type} {e:A→List D} {Q:A→Prop} (f:A→B) (e':B→List D) (Q':B→Prop) (h:D0 enc P W t fuel e Q) (hl:∀a,(e' (f a)).length=(e a).length)
  (hr:∀a (j:Nat) (d':D),(e' (f a))[j]?=some d'→∃d,(e a)[j]?=some d∧∀v,Rd (hp W) (fun b=>b<W.heap.size) d v→Rd (hp W) (fun b=>b<W.heap.size) d' v) (hq:∀a,Q a→Q' (f a)):D0 enc P W t fuel e' Q':=by
 intro cs x hx
 obtain⟨a,h1,h2,h3⟩:=h cs x hx
 refine⟨f a,hq a h1,by rw[hl];exact h2,fun j d' hj=>?_⟩
 obtain⟨d,g1,g2⟩:=hr a j d' hj
 obtain⟨v,g3,g4⟩:=h3 j d g1
 exact⟨v,g3,g2 v g4⟩
theorem WV {n:Int} (h:(Lit.int .i64 n).wf=true):w64 n:=by
 have:=bounds_i64 h;exact⟨by omega,by omega⟩
abbrev ExT:Type:=Int×Int×List UInt8×Ex×Ex×Unit
def A7N:Option ExT→Ex
 |none=>.nil
 |some (k,n,s,a,b,_)=>.mk k n s a b
def vY (p:ExT):List D:=[dI p.1]++([dI p.2.1]++([dS p.2.2.1]++([p.2.2.2.1.d]++([p.2.2.2.2.1.d]++[]))))
def vZ (p:ExT):Prop:=(Lit.int .i64 p.1).wf=true∧(Lit.int .i64 p.2.1).wf=true∧p.2.2.1.length≤maxLen∧okN p.2.2.2.1∧okN p.2.2.2.2.1∧True
mutual
theorem eR:∀fuel,D0 enc Tryz.prog W 68 fuel (fun e:Ex=>[e.d]) okN
 |0=>CV
 |n+1=>by
  refine eQ A7N _ _ (kn Tryz.underlying68 (Nat.lt_of_lt_of_eq (Nat.succ_pos 4) (by kernel_rfl)) (oN n)) (fun _=>rfl) ?_ ?_
  ·rintro o j d' hj
   cases j with
   |zero=>
    simp only[List.getElem?_cons_zero,jS]at hj
    subst hj
    cases o with
    |none=>exact⟨_,rfl,fun v r=>by cases r;exact .v _ rfl⟩
    |some u=>exact⟨_,rfl,fun v r=>r⟩
   |succ j=>simp at hj
  ·intro o ho
   cases o with
   |none=>trivial
   |some u=>
    obtain⟨h1,h2,h3,h4,h5,_⟩:=ho u rfl
    exact⟨WV h2,h4,h5⟩
theorem oN:∀fuel,D0 enc Tryz.prog W 70 fuel vY vZ
 |0=>CV
 |n+1=>by
  refine DK (e':=vY) (Q':=vZ) id (h:=EB (n:=5) Tryz.underlying70 (by kernel_rfl) (BK (m:=1) (n:=4) rfl (by kernel_rfl) (El Tryz.underlying3) (BK (m:=1) (n:=3) rfl (by kernel_rfl) (El Tryz.underlying2) (BK (m:=1) (n:=2) rfl (by kernel_rfl) (OR Tryz.underlying9) (BK (m:=1) (n:=1) rfl (by kernel_rfl) (eR n) (BK (m:=1) (n:=0) rfl (by kernel_rfl) (eR n) (H4 _))))))) (he:=fun _=>rfl) (hq:=fun _ h=>h)
end
end
end Go.Proofs.YtbiepiggmagfcaaGreatDoor
namespace Go.Proofs.YtbiepiggmagfcaaGreatDoor
open Go Go.Sy Go.RowKit Go.ChangeShapes Go.WideShapes Go.ChangeAt
section
variable {H:Type} {enc:TypeId×Value→H} {W:World}
theorem va (fuel:Nat):D0 enc Tryz.prog W 64 fuel Al.r (fun _=>True):=by
 cases fuel with
 |zero=>exact CV
 |succ n=>
  exact DK (fun p:Int×Int×Unit=>(⟨p.1,p.2.1⟩:Al)) _ _ (EB Tryz.underlying64 (n:=2) (by kernel_rfl)
   (BK (m:=1) (n:=1) rfl (by kernel_rfl) (El Tryz.underlying3) (BK (m:=1) (n:=0) rfl (by kernel_rfl) (El Tryz.underlying3) (H4 _)))) (fun _=>rfl) (fun p hp=>trivial)
theorem vb (fuel:Nat):D0 enc Tryz.prog W 66 fuel Nt.r (fun _=>True):=by
 cases fuel with
 |zero=>exact CV
 |succ n=>
  exact DK (fun p:Int×Int×List UInt8×Unit=>(⟨p.1,p.2.1,p.2.2.1⟩:Nt)) _ _ (EB Tryz.underlying66 (n:=3) (by kernel_rfl)
   (BK (m:=1) (n:=2) rfl (by kernel_rfl) (El Tryz.underlying3) (BK (m:=1) (n:=1) rfl (by kernel_rfl) (El Tryz.underlying3) (BK (m:=1) (n:=0) rfl (by kernel_rfl) (OR Tryz.underlying9) (H4 _))))) (fun _=>rfl) (fun p hp=>trivial)
theorem Yv (fuel:Nat):D0 enc Tryz.prog W 48 fuel (fun l:List Al=>[.sl zAl (l.map Al.r)]) (fun l=>l.length≤maxLen):=by
 cases fuel with
 |zero=>exact CV
 |succ n=>exact DK id _ _ (I5 Tryz.underlying48 zAl (by kernel_rfl) (by decide) (va n)) (fun _=>rfl) (fun _ h=>h.1)
theorem oO (fuel:Nat):D0 enc Tryz.prog W 49 fuel (fun l:List Nt=>[.sl zNt (l.map Nt.r)]) (fun l=>l.length≤maxLen):=by
 cases fuel with
 |zero=>exact CV
 |succ n=>exact DK id _ _ (I5 Tryz.underlying49 zNt (by kernel_rfl) (by decide) (vb n)) (fun _=>rfl) (fun _ h=>h.1)
def ivR (x:Iv):List D:=[.v (.bool x.s),dI x.lo,dI x.hi]
theorem eS (fuel:Nat):D0 enc Tryz.prog W 52 fuel ivR wIv:=by
 cases fuel with
 |zero=>exact CV
 |succ n=>
  exact DK (fun p:Bool×Int×Int×Unit=>(⟨p.1,p.2.1,p.2.2.1⟩:Iv)) _ _ (EB Tryz.underlying52 (n:=3) (by kernel_rfl)
   (BK (m:=1) (n:=2) rfl (by kernel_rfl) (VM Tryz.underlying4) (BK (m:=1) (n:=1) rfl (by kernel_rfl) (El Tryz.underlying2) (BK (m:=1) (n:=0) rfl (by kernel_rfl) (El Tryz.underlying2) (H4 _))))) (fun _=>rfl) (fun p hp=>⟨WV hp.2.1,WV hp.2.2.1⟩)
theorem vd (fuel:Nat):D0 enc Tryz.prog W 221 fuel Md.r (fun _=>True):=by
 cases fuel with
 |zero=>exact CV
 |succ n=>
  exact DK (fun p:List UInt8×Iv×Unit=>(⟨p.1,p.2.1⟩:Md)) _ _ (EB Tryz.underlying221 (n:=4) (by kernel_rfl)
   (BK (m:=1) (n:=3) rfl (by kernel_rfl) (OR Tryz.underlying9) (BK (m:=3) (n:=0) rfl (by kernel_rfl) (eS n) (H4 _)))) (fun _=>rfl) (fun p hp=>trivial)
theorem oP (fuel:Nat):D0 enc Tryz.prog W 53 fuel (fun l:List Md=>[.sl zMd (l.map Md.r)]) (fun _=>True):=by
 cases fuel with
 |zero=>exact CV
 |succ n=>exact DK id _ _ (I5 Tryz.underlying53 zMd (by kernel_rfl) (by decide) (vd n)) (fun _=>rfl) (fun _ h=>trivial)
structure Sy0 where
 al:List Al
 e:Bool
 v:Iv
 md:List Md
def Sy0.r (x:Sy0):List D:=[.sl zAl (x.al.map Al.r),.v (.bool x.e),.v (.bool x.v.s),dI x.v.lo,dI x.v.hi,.sl zMd (x.md.map Md.r)]
theorem ve (fuel:Nat):D0 enc Tryz.prog W 55 fuel Sy0.r (fun x=>x.al.length≤maxLen∧wIv x.v):=by
 cases fuel with
 |zero=>exact CV
 |succ n=>
  exact DK (fun p:List Al×Bool×Iv×List Md×Unit=>(⟨p.1,p.2.1,p.2.2.1,p.2.2.2.1⟩:Sy0)) _ _ (EB Tryz.underlying55 (n:=6) (by kernel_rfl)
   (BK (m:=1) (n:=5) rfl (by kernel_rfl) (Yv n) (BK (m:=1) (n:=4) rfl (by kernel_rfl) (VM Tryz.underlying4) (BK (m:=3) (n:=1) rfl (by kernel_rfl) (eS n) (BK (m:=1) (n:=0) rfl (by kernel_rfl) (oP n) (H4 _)))))) (fun _=>rfl) (fun p hp=>⟨hp.1,hp.2.2.1⟩)
theorem vf (fuel:Nat):D0 enc Tryz.prog W 57 fuel Su.r WU:=by
 cases fuel with
 |zero=>exact CV
 |succ n=>
  exact DK (fun p:List UInt8×Sy0×Unit=>(⟨p.1,some p.2.1.al,p.2.1.e,p.2.1.v,some p.2.1.md⟩:Su)) _ _ (EB Tryz.underlying57 (n:=7) (by kernel_rfl)
   (BK (m:=1) (n:=6) rfl (by kernel_rfl) (OR Tryz.underlying9) (BK (m:=6) (n:=0) rfl (by kernel_rfl) (ve n) (H4 _)))) (fun _=>rfl) (fun p hp=>⟨hp.2.1.2,by
    have h:=hp.2.1.1
    have hm:maxLen≤9223372036854775807:=by decide
    show w64 ((p.2.1.al.length:Nat):Int)
    unfold w64
    omega⟩)
theorem oQ (fuel:Nat):D0 enc Tryz.prog W 50 fuel (fun l:List Su=>[.sl zSu (l.map Su.r)]) (fun l=>∀x∈l,WU x):=by
 cases fuel with
 |zero=>exact CV
 |succ n=>exact DK id _ _ (I5 Tryz.underlying50 zSu (by kernel_rfl) (by decide) (vf n)) (fun _=>rfl) (fun _ h=>h.2)
theorem jL {base:Nat} {v:Value} {d:DataW H} {p:List MemPlace} (hv:Value.okWide Tryz.prog W .any base 48 v) (h:DataW.Trod enc Tryz.prog W 0 (fun _=>true) true 48 v d p) :
  ∃l:List Al,l.length≤maxLen∧CD (hp W) (fun b=>b<W.heap.size) (.one (.d (.sl zAl (l.map Al.r)))) v:=OS (f:=fun l:List Al=>D.sl zAl (l.map Al.r)) (r:=.any) (base:=base) (MO Tryz.underlying48 hv) h Yv
theorem jM {base:Nat} {v:Value} {d:DataW H} {p:List MemPlace} (hv:Value.okWide Tryz.prog W .any base 49 v) (h:DataW.Trod enc Tryz.prog W 0 (fun _=>true) true 49 v d p) :
  ∃l:List Nt,l.length≤maxLen∧CD (hp W) (fun b=>b<W.heap.size) (.one (.d (.sl zNt (l.map Nt.r)))) v:=OS (f:=fun l:List Nt=>D.sl zNt (l.map Nt.r)) (r:=.any) (base:=base) (MO Tryz.underlying49 hv) h oO
theorem jO {base:Nat} {v:Value} {d:DataW H} {p:List MemPlace} (hv:Value.okWide Tryz.prog W .any base 50 v) (h:DataW.Trod enc Tryz.prog W 0 (fun _=>true) true 50 v d p) :
  ∃l:List Su,(∀x∈l,WU x)∧CD (hp W) (fun b=>b<W.heap.size) (.one (.d (.sl zSu (l.map Su.r)))) v:=OS (f:=fun l:List Su=>D.sl zSu (l.map Su.r)) (r:=.any) (base:=base) (MO Tryz.underlying50 hv) h oQ
end
end Go.Proofs.YtbiepiggmagfcaaGreatDoor
namespace Go.Proofs.YtbiepiggmagfcaaGreatDoor
open Go Go.Sy Go.RowKit Go.ChangeShapes Go.WideShapes Go.ChangeAt
theorem RD {W:World} (h:laidMetH Tryz.prog Rows.reportTellsRow.laid W):AY W:=by
 rw[MakeChecks.laidMetH_plain _ _ _ (by kernel_rfl)]at h
 obtain⟨g,t,cs,fuel,p,h1,h2,h3,h4⟩:=Lib.laidMet.reads h (n := "internal/strconv.uint64pow10") (d:=Rows.laid_internal_strconv_uint64pow10) (.tail _ (.tail _ (.head _)))
 have h5:=jK
 rw[h1,Option.bind_some,h2]at h5
 obtain rfl:=Option.some.inj h5
 rw[jJ]at h4
 unfold AY Lib.TabIs
 rw[h3,← Lib.cells_of_tab Tryz.underlying191 Tryz.underlying139 (by kernel_rfl) (by kernel_rfl) h4]
theorem Vm (a0:Int) (w0:(Lit.int .i64 a0).wf=true) (a1:List Int) (v1:Value) (w1:a1.length≤maxLen∧∀x∈a1,0≤x∧x<256) (a2:List Al) (v2:Value) (w2:a2.length≤maxLen) (a3:List Nt) (v3:Value) (w3:a3.length≤maxLen) (a4:List Su) (v4:Value) (w4:∀x∈a4,WU x) (W:World) (x1:CD (hp W) (fun b=>b<W.heap.size) (.one (.d (.sl zBy (a1.map byD)))) v1) (x2:CD (hp W) (fun b=>b<W.heap.size) (.one (.d (.sl zAl (a2.map Al.r)))) v2) (x3:CD (hp W) (fun b=>b<W.heap.size) (.one (.d (.sl zNt (a3.map Nt.r)))) v3) (x4:CD (hp W) (fun b=>b<W.heap.size) (.one (.d (.sl zSu (a4.map Su.r)))) v4) (hT:AY W) :
  Calls Tryz.prog 5 #[.int .i64 a0,v1,v2,v3,v4] W (fun en W'=>en= .returned (.bool true)∧Below W.heap.size W W'):=by
 refine eP Vl (a0,a1,a2,a3,a4,()) W hT ⟨w1,w4⟩ [.int .i64 a0,v1,v2,v3,v4] (.bool true) rfl ?_ rfl
 intro j u x h1 h2
 rcases j with _|_|_|_|_|j
 ·obtain rfl:Value.int .i64 a0=x:=Option.some.inj h2
  obtain rfl:SV.one (.v (.int .i64 a0))=u:=Option.some.inj h1
  exact IG (H:=fun _=>none) (c:=.v _) rfl (.v _ _ rfl)
 ·obtain rfl:v1=x:=Option.some.inj h2
  obtain rfl:SV.one (.d (.sl zBy (a1.map byD)))=u:=Option.some.inj h1
  exact x1
 ·obtain rfl:v2=x:=Option.some.inj h2
  obtain rfl:SV.one (.d (.sl zAl (a2.map Al.r)))=u:=Option.some.inj h1
  exact x2
 ·obtain rfl:v3=x:=Option.some.inj h2
  obtain rfl:SV.one (.d (.sl zNt (a3.map Nt.r)))=u:=Option.some.inj h1
  exact x3
 ·obtain rfl:v4=x:=Option.some.inj h2
  obtain rfl:SV.one (.d (.sl zSu (a4.map Su.r)))=u:=Option.some.inj h1
  exact x4
 ·exact absurd (show ([]:List Value)[j]?=some x from h2) (by simp)
end Go.Proofs.YtbiepiggmagfcaaGreatDoor
