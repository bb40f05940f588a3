/- ParseBlanks, walked. No conditions but those in each statement. -/
import Derived.Test.YtlaggppdgoknjaaGreatDoorPg3
import Derived.Test.YtlaggppdgoknjaaGreatDoorMc4
import Derived.Test.YtlaggppdgoknjaaGreatDoorPz1
import Derived.Test.YtlaggppdgoknjaaGreatDoorMk5
import Derived.Test.YtlaggppdgoknjaaGreatDoorTie
import Derived.Test.YtlaggppdgoknjaaGreatDoorCards
import Derived.LaidMore
import Derived.Lay
import Derived.SevenTiedAt
import Derived.Stop.Joined
import Derived.ProofKit
import Derived.OpenShut
import Derived.Lib.SmallJoins
import Derived.Carry
set_option linter.unusedVariables false
set_option linter.unusedSimpArgs false
namespace Go.Proofs.YtlaggppdgoknjaaGreatDoor
open Go Go.Sy Go.RowKit
theorem gp_at (i:Nat):([[.v (.string (bs [32]))],[.v (.string (bs [10]))],[.v (.string (bs [9]))],[.v (.string (bs [32,35,59,10]))],[.v (.string (bs [32,32]))]]:List (List C)).getD i [.v (.string (bs []))]=[.v (.string (bs (gpT.getD i [])))]:=tb_at gpT i
theorem tk_z {l:List Tok} {i:Nat} {t:Tok} (h:l[i]?=some t) (z:List D):(l.map Tok.r).getD i z=[dI t.k,dS t.t,dI t.p]:=by simp[List.getD,h,Tok.r]
theorem by_z {l:List Int} {i:Nat} {x:Int} (h:l[i]?=some x) (z:List D):(l.map byD).getD i z=[.v (.int .u8 x)]:=by simp[List.getD,h,byD]
theorem bzP_s {T:List Tok} {l:List Int} {i:Nat} {t:Tok} {x:Int} (h:T[i]?=some t) (g:l[i]?=some x):bzP T l (i+1)=(bzP T l i++t.t)++gpT.getD (x.tmod 5).toNat []:=by
 obtain⟨h1,h2⟩:=List.getElem?_eq_some_iff.1 h
 obtain⟨g1,g2⟩:=List.getElem?_eq_some_iff.1 g
 show (bzP T l i++(T.getD i ⟨0,[],0⟩).t)++gpA l i=_
 unfold gpA
 rw[if_pos g1]
 simp[List.getD,h,g]
theorem bzP_n {T:List Tok} {l:List Int} {i:Nat} {t:Tok} (h:T[i]?=some t) (g:l[i]?=none):bzP T l (i+1)=(bzP T l i++t.t)++[32]:=by
 obtain⟨h1,h2⟩:=List.getElem?_eq_some_iff.1 h
 have g1:=List.getElem?_eq_none_iff.1 g
 show (bzP T l i++(T.getD i ⟨0,[],0⟩).t)++gpA l i=_
 unfold gpA
 rw[if_neg (by omega)]
 simp[List.getD,h]
theorem gp_len (i:Nat):(gpT.getD i []).length≤4:=by
 by_cases h:i<gpT.length
 ·rw[List.getD,List.getElem?_eq_getElem h]
  exact(gp_ok _ (List.getElem_mem h)).2.2
 ·rw[List.getD,List.getElem?_eq_none (by omega)];exact Nat.zero_le _
abbrev yc_ParseBlanks (k:Int) (b:List Int) (l:List Int):Prop:=(b.length≤maxLen∧∀x∈b,0≤x∧x<256)∧l.length≤maxLen∧∀x∈l,0≤x∧x<256
abbrev yr_ParseBlanks (k:Int) (b:List Int) (l:List Int):SV:=.one (.v (.bool true))
noncomputable abbrev ya_ParseBlanks:ArgC ((Int)×(List Int)×(List Int)×Unit):=(acS (cInt .i64) (acS (cBy) (acS (cBy) ac0)))
abbrev yq_ParseBlanks:Prop:=CallsY Tryz.prog 3 ya_ParseBlanks (fun p:(Int)×(List Int)×(List Int)×Unit=>yc_ParseBlanks p.1 p.2.1 p.2.2.1) (fun p:(Int)×(List Int)×(List Int)×Unit=>yr_ParseBlanks p.1 p.2.1 p.2.2.1)
attribute [local go_sem] Fn.c cBy_d' cBy_e cFn_d cFn_e gp_at pairN_o pairO_n rBy_e rBy_z spFn_n yg_eqF ypTok yp_Place yp_Text yp_known7 yp_qFunc yr_Place yr_Text yr_known7 zBy_ln zTk
set_option maxRecDepth 20000 in set_option maxHeartbeats 16000000 in
theorem y_ParseBlanks:yq_ParseBlanks:=by
 rintro ⟨k,b,l,_u⟩ w fz xs hc hfz hl hx
 refine calls_toL Tryz.func3 rfl w fz [yp_known7,yp_Place,yp_Text,(ypTok),yp_qFunc,(yg_eqF (gN (txT (plF k) b)) (gM (txT (plF k) b)) (y_eqF _ _))] [] ya_ParseBlanks (fun p:(Int)×(List Int)×(List Int)×Unit=>yr_ParseBlanks p.1 p.2.1 p.2.2.1) _ xs hfz hl hx (Nat.le_of_ble_eq_true rfl) ?_
 clear hx hl hfz xs
 simp only[Tryz.f3]
 obtain⟨⟨hbl,hby⟩,hll,hly⟩:=hc
 dsimp only at hbl hby hll hly
 cases c1:decide ((100:Int)<(b.length:Int)) with
 |true=>
  simp only[↓eB,seval,go_sem,List.length_append,c1]
  try simp only[impB,impN]
  repeat' first|exact ck|with_reducible apply And.intro|intro _
  all_goals first|exact trivial|(rename_i h;first|exact oI h|exact nah h)|(rename_i _ h _ g;exact sL h g)|decide|omega|(refine ret_with [] ?_;simp only[↓eB,seval,go_sem,bne,yr_ParseBlanks])
 |false=>
 cases c2:decide ((300:Int)<(l.length:Int)) with
 |true=>
  simp only[↓eB,seval,go_sem,List.length_append,c1,c2]
  try simp only[impB,impN]
  repeat' first|exact ck|with_reducible apply And.intro|intro _
  all_goals first|exact trivial|(rename_i h;first|exact oI h|exact nah h)|(rename_i _ h _ g;exact sL h g)|decide|omega|(refine ret_with [] ?_;simp only[↓eB,seval,go_sem,bne,yr_ParseBlanks])
 |false=>
 have hb2:=of_decide_eq_false c1
 have hl2:=of_decide_eq_false c2
 have p0:=plF_in k
 have g1:okY b:=⟨by omega,hby⟩
 have g2:0≤plF k:=p0.1
 obtain⟨T,e1,tl,tt,sl,fe,ff⟩:=bz_fun g2 g1 hly
 have hs:smallB (txT (plF k) b):=by unfold smallB;omega
 have hB:=gB (txT (plF k) b)
 have hO:=(funF_good (txT (plF k) b)).1
 have hB1:yc_eqF (gN (txT (plF k) b)) (gM (txT (plF k) b)) (funF (txT (plF k) b)).1 (funF (txT (plF k) b)).1:=⟨rfl,hB,Nat.le_trans hO.1 (by decide),Nat.le_trans hO.2 (by decide)⟩
 have f1:(funF (txT (plF k) b)).2.1=0:=by rw[fe]
 have f2:(funF (txT (plF k) b)).2.2=0:=by rw[fe]
 obtain⟨S,hS⟩:∃S,txT (plF k) b=S:=⟨_,rfl⟩
 rw[hS]at e1 sl fe ff hs hB1 f1 f2
 have hS2:(txT (plF k) b,()).1=S:=hS
 simp only[↓eB,seval,go_sem,List.length_append,c1,c2,hS,e1]
 try simp only[impB,impN]
 repeat' (first|exact ck|with_reducible apply And.intro)
 all_goals try first|exact g1|exact g2|exact hs|decide|omega
 have hg:=gp_len
 refine loop_ok (Y:=Nat) (fun z=>z≤T.length)
  (fun z=>⟨[(2,true,.one (.d (.sl zBy (l.map byD)))),(7,true,.one (.v (.string (bs S)))),(8,true,.one (.d (.sl zTk (T.map Tok.r)))),(10,true,.one (.v (.int .i64 0))),(11,true,.one (.v (.string (bs (bzP T l z))))),(12,true,.one (.v (.int .i64 (z:Int))))],[]⟩)
  (fun z=>T.length-z) 0 (Nat.zero_le _) ?_ ?_
 ·refine to_with [] ?_;simp only[↓eB,seval,go_sem,List.length_append,bzP]
 ·rintro z hz
  refine vc_ok [yp_known7,yp_Place,yp_Text,ypTok,yp_qFunc,yg_eqF (gN S) (gM S) (y_eqF _ _)] [] _ _ _ ?_
  have w1:IntKind.i64.wrap ((z:Int)+1)=((z+1:Nat):Int):=by rw[wrap_i64 (by omega) (by omega)];rfl
  have hbz:=bz_len tt hly z hz
  cases hx:T[z]? with
  |none=>
   have h2:=List.getElem?_eq_none_iff.1 hx
   have h1:=natI_ge h2
   have hzT:z=T.length:=by omega
   cases c3:decide ((4096:Int)<((bzP T l z).length:Int)) with
   |true=>
    simp only[↓eB,seval,go_sem,List.length_append,h1,c3,beq_self_eq_true,bne_self_eq_false]
    try simp only[impB,impN]
    repeat' first|exact ck|with_reducible apply And.intro|intro _
    all_goals first|exact trivial|(rename_i h;first|exact oI h|exact nah h)|(rename_i _ h _ g;exact sL h g)|decide|omega|(refine ret_with [] ?_;simp only[↓eB,seval,go_sem,bne,yr_ParseBlanks])
   |false=>
    have c4:=of_decide_eq_false c3
    have hF:funF (bzP T l z)=funF S:=by rw[hzT];exact ff (by rw[← hzT];omega)
    have hs2:smallB (bzP T l z):=by unfold smallB;omega
    simp only[↓eB,seval,go_sem,List.length_append,h1,c3,hF,f1,f2,beq_self_eq_true,bne_self_eq_false]
    try simp only[impB,impN]
    repeat' first|exact ck|with_reducible apply And.intro|intro _
    all_goals first|exact hs|exact hs2|exact hB1|exact hB1.1|exact hB1.2.1|exact hB1.2.2.1|exact hB1.2.2.2|(rename_i h;first|exact oI h|exact nah h)|(rename_i _ h _ g;exact sL h g)|decide|omega|(refine ret_with [] ?_;simp only[↓eB,seval,go_sem,bne,yr_ParseBlanks])
  |some t=>
   have hlt:=(List.getElem?_eq_some_iff.1 hx).1
   have h1:=natI_lt hlt
   have h2:=tk_z hx
   have tl2:=tt t (List.mem_of_getElem? hx)
   cases hb3:l[z]? with
   |none=>
    have k1:=natI_ge (List.getElem?_eq_none_iff.1 hb3)
    have e2:=bzP_n hx hb3
    simp only[↓eB,seval,go_sem,List.length_append,h1,h2,k1,w1]
    try simp only[impB,impN]
    repeat' (first|exact ck|with_reducible apply And.intro)
    all_goals try first|exact hlt|decide|omega
    refine⟨z+1,hlt,by omega,to_with [] ?_⟩
    simp only[↓eB,seval,go_sem,List.length_append,e2]
   |some x=>
    have hlt2:=(List.getElem?_eq_some_iff.1 hb3).1
    have k1:=natI_lt hlt2
    have k2:=by_z hb3
    have hx1:=hly x (List.mem_of_getElem? hb3)
    have t1:0≤x.tmod 5:=Int.tmod_nonneg 5 hx1.1
    have t2:x.tmod 5<5:=Int.tmod_lt_of_pos _ (by decide)
    have e2:=bzP_s hx hb3
    have g5:=hg (x.tmod 5).toNat
    simp only[↓eB,seval,go_sem,List.length_append,h1,h2,k1,k2,w1]
    try simp only[impB,impN]
    repeat' (first|exact ck|with_reducible apply And.intro)
    all_goals try first|exact hlt|exact hlt2|decide|omega
    refine⟨z+1,hlt,by omega,to_with [] ?_⟩
    simp only[↓eB,seval,go_sem,List.length_append,e2]
end Go.Proofs.YtlaggppdgoknjaaGreatDoor
namespace Go.Proofs.YtlaggppdgoknjaaGreatDoor
open Go Go.Sy Go.RowKit Go.ChangeShapes Go.WideShapes Go.ChangeAt
section
variable {H:Type} {enc:TypeId×Value→H} {W:World} {base:Nat} {v:Value} {d:DataW H} {p:List MemPlace}
theorem wf_byte {n:Int} (h:(Lit.int .u8 n).wf=true):0≤n∧n<256:=by
 have:=bounds_u8 h;omega
theorem opn_bytes:Opn enc Tryz.prog W 22 (fun l:List Int=>[.sl zBy (l.map byD)]) (fun l=>l.length≤maxLen∧∀x∈l,0≤x∧x<256):=by
 intro fuel
 cases fuel with
 |zero=>exact opnF_zero
 |succ n=>exact opnF_map id _ _ (opnF_slice Tryz.underlying22 zBy (by kernel_rfl) (by decide) (opnF_int Tryz.underlying5)) (fun _=>rfl) (fun _ h=>⟨h.1,fun x hx=>wf_byte (h.2 x hx)⟩)
set_option maxRecDepth 100000 in
theorem open_bytes (hv:Value.okWide Tryz.prog W .any base 22 v) (h:DataW.Trod enc Tryz.prog W 0 (fun _=>true) true 22 v d p) :
  ∃a:List Int,(a.length≤maxLen∧∀x∈a,0≤x∧x<256)∧CD (hp W) (fun b=>b<W.heap.size) (.one (.d (.sl zBy (a.map byD)))) v:=
 open_one (r:=.any) (base:=base) (f:=fun l:List Int=>.sl zBy (l.map byD)) (okWide_sl Tryz.underlying22 hv) h opn_bytes
end
end Go.Proofs.YtlaggppdgoknjaaGreatDoor
namespace Go.Proofs.YtlaggppdgoknjaaGreatDoor
open Go Go.Sy Go.RowKit Go.ChangeShapes Go.WideShapes Go.ChangeAt
theorem to_plainLY {P:Program} {f:FuncId} {A:Type} {ac:ArgC A} {Cd:A→Prop} {F:A→SV} (h:CallsY P f ac Cd F) (a:A) (w:World) (hc:Cd a) (vals:List Value) (val:Value) (hl:vals.length=(ac.e a).length)
  (h1:∀(j:Nat) (v:SV) (x:Value),(ac.e a)[j]?=some v→vals[j]?=some x→CD (hp w) (fun b=>b<w.heap.size) v x)
  (h2:clos (F a)=some val):Calls P f vals.toArray w (fun e w'=>e= .returned val∧Below w.heap.size w w'):=by
 refine(h a w (fun b=>b<w.heap.size) vals hc (fun _ h=>h) hl h1).mono ?_
 rintro e w' ⟨v,x,fz',rfl,rfl,g1,g2,g3,g4,g5,g6⟩
 rw[sd_clos g5 h2]
 exact⟨rfl,g6⟩
theorem c_ParseBlanks (k:Int) (_hk:(Lit.int .i64 k).wf=true) (b:List Int) (v:Value) (hb:b.length≤maxLen∧∀x∈b,0≤x∧x<256) (l:List Int) (u:Value) (hl:l.length≤maxLen∧∀x∈l,0≤x∧x<256) (W:World) (hx:CD (hp W) (fun b=>b<W.heap.size) (.one (.d (.sl zBy (b.map byD)))) v) (hy:CD (hp W) (fun b=>b<W.heap.size) (.one (.d (.sl zBy (l.map byD)))) u) :
  Calls Tryz.prog 3 #[.int .i64 k,v,u] W (fun en W'=>en= .returned (.bool true)∧Below W.heap.size W W'):=by
 refine to_plainLY y_ParseBlanks (k,b,l,()) W ⟨hb,hl⟩ [.int .i64 k,v,u] (.bool true) rfl ?_ rfl
 intro j s x h1 h2
 rcases j with _|_|_|j
 ·obtain rfl:Value.int .i64 k=x:=Option.some.inj h2
  obtain rfl:SV.one (.v (.int .i64 k))=s:=Option.some.inj h1
  exact sc_of (H:=fun _=>none) (c:=.v _) rfl (.v _ _ rfl)
 ·obtain rfl:v=x:=Option.some.inj h2
  obtain rfl:SV.one (.d (.sl zBy (b.map byD)))=s:=Option.some.inj h1
  exact hx
 ·obtain rfl:u=x:=Option.some.inj h2
  obtain rfl:SV.one (.d (.sl zBy (l.map byD)))=s:=Option.some.inj h1
  exact hy
 ·exact absurd (show ([]:List Value)[j]?=some x from h2) (by simp)
end Go.Proofs.YtlaggppdgoknjaaGreatDoor
namespace Go.Proofs.YtlaggppdgoknjaaGreatDoor
open Go Go.RowKit Go.ChangeShapes Go.WideShapes Go.ChangeAt
theorem ownK:ownKnob Tryz.prog.godebug=none:=by kernel_rfl
theorem laidK:laidOutB Tryz.prog=true:=by kernel_rfl
theorem trodAll_below {H:Type} {enc:TypeId×Value→H} {P:Program} (hl:laidOutB P=true) {W W':World} (hb:Below W.heap.size W W'):∀(ts:List TypeId) (vs:List Value) (ds:List (DataW H)) (ps:List MemPlace),
  (∀t∈ts,P.readableRec t=true∧t<P.types.size)→DataW.TrodAll enc P W 0 (fun _=>true) true ts vs ds ps→(∀x∈ps,x.block<W.heap.size)→DataW.TrodAll enc P W' 0 (fun b=>decide (b<W.heap.size)) true ts vs ds ps
 |[],vs,ds,ps,_,h,_=>by
  obtain⟨rfl,rfl,rfl⟩:=trodAll_nil h
  exact trodAll_mk0
 |t::ts,vs,ds,ps,hts,h,hlt=>by
  obtain⟨v,vs',d,ds',p,q,rfl,rfl,rfl,h1,h2⟩:=trodAll_cons h
  have ht:=hts t (List.mem_cons_self ..)
  exact trodAll_cons_mk (Below.trod hl ht.1 ht.2 h1 hb fun x hx=>hlt x (List.mem_append_left _ hx))
   (trodAll_below hl hb ts vs' ds' q (fun t' ht'=>hts t' (List.mem_cons_of_mem _ ht')) h2 fun x hx=>hlt x (List.mem_append_right _ hx))
theorem law_post {H:Type} {enc:TypeId×Value→H} {f:Func} {s:ChangeSpec} {W W':World} {args:Array Value} {ds gs:List (DataW H)} {before:List MemPlace} (hW:DataW.Whole enc Tryz.prog f.params.toList s.vars false W args.toList ds gs before)
  (hv:s.vars=[]) (hr:f.resultTypes = #[4]) (hts:∀t∈f.params.toList,Tryz.prog.readableRec t=true∧t<Tryz.prog.types.size)
  (hf:gs=[]→(s.fn H (ds++gs)).results=[.lit (.bool true)]∧(s.fn H (ds++gs)).args=ds∧(s.fn H (ds++gs)).vars=[]) (hb:Below W.heap.size W W') :
  s.post enc Tryz.prog f false true false false W args (.bool true) W':=by
 have hlt:=hW.lt
 have hW0:=hW
 obtain⟨p,q,hA,hV,rfl,_,_⟩:=hW
 rw[hv]at hV
 obtain⟨rfl,rfl⟩:=trodVars_none hV
 obtain⟨f1,f2,f3⟩:=hf rfl
 refine⟨ds,[],p++[],[],p,[],hW0,?_,?_,?_,hb.frame _,fun h=>by cases h⟩
 ·rw[f1,hr]
  exact trodAll_cons_mk (shut_bool Tryz.underlying4 true) trodAll_mk0
 ·rw[f2]
  exact trodAll_below laidK hb _ _ _ _ hts hA fun x hx=>by simpa using hlt x (List.mem_append_left _ hx)
 ·rw[f3,hv];rfl
end Go.Proofs.YtlaggppdgoknjaaGreatDoor
