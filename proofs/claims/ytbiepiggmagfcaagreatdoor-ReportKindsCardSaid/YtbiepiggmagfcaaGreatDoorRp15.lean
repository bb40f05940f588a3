/- The chapter's example on reports. Conditions: the table of powers of ten is laid. -/
import Derived.Test.YtbiepiggmagfcaaGreatDoorRp12
import Derived.Test.YtbiepiggmagfcaaGreatDoorRp11
import Derived.Test.YtbiepiggmagfcaaGreatDoorSyC
import Derived.Deep.Draws
import Derived.LaidMore
import Derived.ProofKit
import Derived.OpenShut
import Derived.Test.YtbiepiggmagfcaaGreatDoorTie
import Derived.Test.YtbiepiggmagfcaaGreatDoorCards
import Derived.Lay
import Derived.SevenTiedAt
import Derived.Stop.Joined
import Derived.Lib.SmallJoins
import Derived.Carry
import Derived.Test.YtbiepiggmagfcaaGreatDoorPx1
import Derived.Lib.LaidU8
set_option linter.unusedVariables false
set_option linter.unusedSimpArgs false
namespace Go.Proofs.YtbiepiggmagfcaaGreatDoor
open Go Go.Sy Go.Shelf Go.RowKit
theorem lw_k29:Lw [102,110,32,102,40,120,41,32,123,32,120,32,61,32,49,32,47,32,120,59,32] [(0,[102,110]),(0,[102]),(2,[40]),(0,[120]),(2,[41]),(2,[123]),(0,[120]),(2,[61]),(1,[49]),(2,[47]),(0,[120]),(2,[59])]:=Lp.of (n:=20) (fun i=>[⟨0,[102,110],((i+0:Nat):Int)⟩,⟨0,[102],((i+3:Nat):Int)⟩,⟨2,[40],((i+4:Nat):Int)⟩,⟨0,[120],((i+5:Nat):Int)⟩,⟨2,[41],((i+6:Nat):Int)⟩,⟨2,[123],((i+8:Nat):Int)⟩,⟨0,[120],((i+10:Nat):Int)⟩,⟨2,[61],((i+12:Nat):Int)⟩,⟨1,[49],((i+14:Nat):Int)⟩,⟨2,[47],((i+16:Nat):Int)⟩,⟨0,[120],((i+18:Nat):Int)⟩,⟨2,[59],((i+19:Nat):Int)⟩]) (by decide) (fun _=>rfl) (fun f i r out=>by kernel_rfl)
def kT29:List UInt8:=[102,110,32,102,40,120,41,32,123,32,120,32,61,32,49,32,47,32,120,59,32,125]
def kC29:Cf:=⟨[102],[⟨[120],false⟩],[],[.asg [120] (.bin 5 (.num [49]) (.var [120]))]⟩
def kE29:Ex:=.mk 5 0 [] (.mk 0 1 [] .nil .nil) (.mk 1 0 [120] .nil .nil)
def kF29:Fn:=⟨[102],[⟨[120],false⟩],[],[.mk 0 [120] [] kE29 .nil .nil [] [] [] 0]⟩
theorem nmO_f:nmO [102]:=⟨by decide,(idn (s:=[102]) (by decide) (by decide)).1⟩
theorem nmO_x:nmO [120]:=⟨by decide,(idn (s:=[120]) (by decide) (by decide)).1⟩
theorem mk29:mkQ kT29 kC29:=by
 refine⟨⟨nmO_f,?_,(fun v hv=>by cases hv),by decide,by decide,?_,by decide,by decide⟩,?_,by decide,by decide,by decide,by decide,?_,(fun v hv=>by cases hv)⟩
 ·intro v hv
  obtain rfl:=List.mem_singleton.1 (show v∈[(⟨[120],false⟩:Vr)] from hv)
  exact nmO_x
 ·refine⟨⟨nmO_x,.inr ⟨by decide,by decide,by decide,trivial,by show wordB [120]=false;decide⟩,⟨⟨49,[],rfl,by decide⟩,nmO_x.2⟩⟩,trivial⟩
 ·exact(lw_k29.wapp (lw_sg 125)).cast rfl rfl
 ·intro v hv
  obtain rfl:=List.mem_singleton.1 (show v∈[(⟨[120],false⟩:Vr)] from hv)
  exact Nat.le_refl _
theorem kv29:kC29.v=kF29:=by kernel_rfl
theorem kf29:funF kT29=(kF29,0,0):=by
 obtain⟨T,e1,e2⟩:=rx_all mk29.z mk29.l
 rw[cf_fun mk29.ok e1 e2,kv29]
theorem kR29:RqF kF29∧RnF kF29:=by
 obtain⟨T,e1,e2⟩:=rx_all mk29.z mk29.l
 have h:=rxT_ok kT29
 rw[e1]at h
 have r:=cf_rq mk29 (by rw[← e2,List.length_map];exact h.1) (fun t ht=>by
  rw[← e2]at ht
  obtain⟨x,hx,rfl⟩:=List.mem_map.1 ht
  exact h.2 x hx)
 have n:=cf_rn mk29
 rw[kv29]at r n
 exact⟨r,n⟩
theorem kr29:resF kF29 [102] 8=(kF29,0,0):=by kernel_rfl
theorem kp29:pgF ⟨[102],kT29⟩ 8=[kF29]:=by
 unfold pgF
 dsimp only
 rw[kf29]
 dsimp only
 rw[if_neg (by decide),kr29]
 rfl
theorem kx29:rpX [⟨0,0⟩] [] (lnF kF29)=[102,110,32,102,40,120,41,32,123,10,9,120,32,61,32,49,32,47,32,120,59,32,35,32,100,105,118,10,125,10]:=by kernel_rfl
theorem kj29:jnN (rpL kF29 [⟨0,0⟩] [])=[102,110,32,102,40,120,41,32,123,10,9,120,32,61,32,49,32,47,32,120,59,32,35,32,100,105,118,10,125,10]:=by rw[rpX_eq kR29.2,kx29]
theorem kt29:tbU [⟨[102],none,false,⟨false,0,0⟩,none⟩]=[102,32,110,101,118,101,114,32,110,111,110,101,32,48,10]:=by kernel_rfl
theorem kA_d:cAs.d (.one (.d (.sl zAl [[dI 0,dI 0]])))=some [⟨0,0⟩]:=cAs_d [⟨0,0⟩]
theorem kA_d1:cAs.d (.one (.d (.sl [.v (.int .i64 0),.v (.int .i64 0)] [[.v (.int .i64 0),.v (.int .i64 0)]])))=some [⟨0,0⟩]:=cAs_d [⟨0,0⟩]
theorem kN_d:cNs.d (.one (.v (.slice none 0 0)))=some []:=codOf_le (e:=fun l:List Nt=>.one (.d (.sl zNt (l.map Nt.r)))) (a:=[]) (.inr ⟨rfl,rfl⟩)
theorem yw_repFunc (n m:Nat):CallsG Tryz.prog 21 powT ya_repFunc (fun p=>yc_repFunc n m p.1 p.2.1 p.2.2.1) (fun a=>ofV ((fun p:Fn×List Al×List Nt×Unit=>Value.string (bs (jnN (rpL p.1 p.2.1 p.2.2.1)))) a)):=y_repFunc n m
theorem yw_Table:CallsG Tryz.prog 23 powT ya_Table (fun p=>yc_Table p.1) (fun a=>ofV ((fun p:List Su×Unit=>Value.string (bs (tbU p.1))) a)):=y_Table
theorem ywh_repFunc:∀a:Fn×List Al×List Nt×Unit,okV ((fun p:Fn×List Al×List Nt×Unit=>Value.string (bs (jnN (rpL p.1 p.2.1 p.2.2.1)))) a)=true:=fun _=>rfl
theorem ywh_Table:∀a:List Su×Unit,okV ((fun p:List Su×Unit=>Value.string (bs (tbU p.1))) a)=true:=fun _=>rfl
section
variable {X:Ctx} {w0:World}
noncomputable def yl_repFunc (n m:Nat) (hG:StaysN X w0 powT powB):Sy.Spec Tryz.prog X w0:=specL 21 Tryz.call21 powT ya_repFunc (fun p=>yc_repFunc n m p.1 p.2.1 p.2.2.1) (fun p=>.string (bs (jnN (rpL p.1 p.2.1 p.2.2.1)))) ywh_repFunc (yw_repFunc n m) hG.stays
noncomputable def yl_Table (hG:StaysN X w0 powT powB):Sy.Spec Tryz.prog X w0:=specL 23 Tryz.call23 powT ya_Table (fun p=>yc_Table p.1) (fun p=>.string (bs (tbU p.1))) ywh_Table yw_Table hG.stays
end
theorem kd5:(kdT 5==[99,97,108,108])=true:=by decide
theorem kd6':(kdT 6==[63])=true:=by decide
theorem kS_d:cUs.d (.one (.d (.sl [dS [],.v (.slice none 0 0),.v (.bool false),.v (.bool false),dI 0,dI 0,.v (.slice none 0 0)] [[dS [102],.v (.slice none 0 0),.v (.bool false),.v (.bool false),dI 0,dI 0,.v (.slice none 0 0)]])))=some [⟨[102],none,false,⟨false,0,0⟩,none⟩]:=cUs_d [⟨[102],none,false,⟨false,0,0⟩,none⟩]
theorem okS29:∀x∈([⟨[102],none,false,⟨false,0,0⟩,none⟩]:List Su),okSu x:=by
 intro x hx
 rw[List.mem_singleton.1 hx]
 exact⟨by decide,⟨⟨by decide,by decide⟩,by decide,by decide⟩,by decide,by decide⟩
theorem kc29:∃u:Un,[(⟨[102],kT29⟩:Un)]=[u]∧(u.s==gloB)=false∧smallB u.t∧okF (funF u.t).1∧okB 5000 8 (funF u.t).1.body:=by
 refine⟨_,rfl,by decide,by unfold smallB;decide,?_⟩
 dsimp only
 rw[kf29]
 exact⟨(show okF kF29 from ⟨by decide,by decide⟩),okPr_b kR29.1.p⟩
abbrev yc_known29:Prop:=True
abbrev yr_known29:SV:=.one (.v (.bool true))
noncomputable abbrev ya_known29:ArgC (Unit):=ac0
abbrev yq_known29:Prop:=CallsG Tryz.prog 20 powT ya_known29 (fun p:Unit=>yc_known29 ) (fun p:Unit=>yr_known29 )
theorem yn_known29:∀p:Unit,((fun p:Unit=>yr_known29 ) p).names=[]:=by intro p;rfl
noncomputable def yg_known29 {X:Ctx} {w0:World} (h:yq_known29) (hG:StaysN X w0 powT powB):Sy.Spec Tryz.prog X w0:=specG 20 Tryz.call20 powT ya_known29 (fun p:Unit=>yc_known29 ) (fun p:Unit=>yr_known29 ) (yn_known29) h hG.stays
set_option maxRecDepth 20000 in set_option maxHeartbeats 4000000 in
theorem y_known29:yq_known29:=by
 rintro ⟨_u⟩ w fz xs hT hc hfz hl hx
 have hG:=staysN_clX powT_keptB powT_size (fz:=fz) hT
 refine calls_toL Tryz.func20 rfl w fz [(yg_Program 5000 8 (y_Program 5000 8)),(yl_repFunc 5000 8 hG),yp_rpkind,(yl_Table hG)] [] ya_known29 (fun p:Unit=>yr_known29 ) _ xs hfz hl hx (Nat.le_of_ble_eq_true rfl) ?_
 clear hx hl hfz xs
 simp only[Tryz.f20]
 have ok:=(rep_ok kR29.1 kR29.2 (A:=[⟨0,0⟩]) (N:=[]) (by decide) (by decide)).1
 have h0:([⟨[102],kT29⟩]:List Un).headD ⟨[],[]⟩=⟨[102],kT29⟩:=rfl
 have hp:=kp29
 have hc:=kc29
 unfold kT29 at h0 hp hc
 simp only[↓eB,seval,go_sem,Fn.c,fn_eta,pairO_n,pairN_o,spFn_n,mUn_e,mUn_z,mUn_d,Un.c,specL_f,specL_fn,lyA,lyV,lyS,lyL,lyC,lyP_s,lyQ_s,yg_Program,yl_repFunc,yl_Table,yp_rpkind,yr_rpkind,pgC,Fn.r,zFn,cFn_d,h0,hp,kj29,kt29,kA_d,kA_d1,kN_d,kS_d,kd5,kd6']
 try simp only[impB,impN]
 repeat' first|exact ck|with_reducible apply And.intro|intro _
 all_goals first|exact ok|exact hc|(exact okS29 _ (by assumption))|exact okS29|(rename_i h;first|exact oI h|exact nah h)|(rename_i _ h _ g;exact sL h g)|decide|omega|(refine ret_with [] ?_;simp only[↓eB,seval,go_sem,bne,yr_known29])
noncomputable def yp_known29 {X:Ctx} {w0:World} (hG:StaysN X w0 powT powB):Sy.Spec Tryz.prog X w0:=yg_known29 y_known29 hG
end Go.Proofs.YtbiepiggmagfcaaGreatDoor
namespace Go.Proofs.YtbiepiggmagfcaaGreatDoor
open Go Go.Sy Go.Shelf Go.RowKit
def plE (k:Int):Int:=if decide (k.tmod 8<0)=true then w64i (k.tmod 8+8) else k.tmod 8
theorem tmodE (k:Int) : -8<k.tmod 8∧k.tmod 8<8:=by
 have h1:=Int.tmod_lt_of_pos k (b:=8) (by decide)
 have h2:=Int.lt_tmod_of_pos k (b:=8) (by decide)
 omega
abbrev yc_PlaceE (k:Int) (n:Int):Prop:=n=8
abbrev yr_PlaceE (k:Int) (n:Int):SV:=SV.one (.v (.int .i64 (plE k)))
theorem y_PlaceE:CallsY Tryz.prog 9 (acS (cInt .i64) (acS (cInt .i64) ac0)) (fun p:(Int×(Int×Unit))=>yc_PlaceE p.1 p.2.1) (fun p:(Int×(Int×Unit))=>yr_PlaceE p.1 p.2.1):=by
 rintro ⟨k,n,_u⟩ w fz xs hc hfz hl hx
 refine calls_toL Tryz.func9 rfl w fz [] [] (acS (cInt .i64) (acS (cInt .i64) ac0)) (fun p:(Int×(Int×Unit))=>yr_PlaceE p.1 p.2.1) _ xs hfz hl hx (Nat.le_of_ble_eq_true rfl) ?_
 clear hx hl hfz xs
 simp only[Tryz.f9]
 have hn:n=8:=hc
 subst hn
 have t:=tmodE k
 have w1:IntKind.i64.wrap (k.tmod 8)=k.tmod 8:=by rw[wrap_i64 (by omega) (by omega)]
 cases h:decide (k.tmod 8<0) with
 |true=>
  simp only[↓eB,seval,go_sem,w1,h]
  try simp only[impB,impN]
  repeat' first|exact ck|with_reducible apply And.intro|intro _
  all_goals first|exact trivial|(rename_i h;first|exact oI h|exact nah h)|(rename_i _ h _ g;exact sL h g)|decide|omega|(refine ret_with [] ?_;simp only[↓eB,seval,go_sem,bne,yr_PlaceE,plE,h,w64i])
 |false=>
  simp only[↓eB,seval,go_sem,w1,h]
  try simp only[impB,impN]
  repeat' first|exact ck|with_reducible apply And.intro|intro _
  all_goals first|exact trivial|(rename_i h;first|exact oI h|exact nah h)|(rename_i _ h _ g;exact sL h g)|decide|omega|(refine ret_with [] ?_;simp only[↓eB,seval,go_sem,bne,yr_PlaceE,plE,h,w64i])
theorem yn_PlaceE:∀p:(Int×(Int×Unit)),((fun p:(Int×(Int×Unit))=>yr_PlaceE p.1 p.2.1) p).names=[]:=by intro p;first|rfl|simp[SV.names,C.names]
noncomputable def yp_PlaceE {X:Ctx} {w0:World}:Sy.Spec Tryz.prog X w0:=specD 9 Tryz.call9 (acS (cInt .i64) (acS (cInt .i64) ac0)) (fun p:(Int×(Int×Unit))=>yc_PlaceE p.1 p.2.1) (fun p:(Int×(Int×Unit))=>yr_PlaceE p.1 p.2.1) yn_PlaceE y_PlaceE
abbrev yc_ReportKinds (k:Int):Prop:=True
abbrev yr_ReportKinds (k:Int):SV:=.one (.v (.bool true))
noncomputable abbrev ya_ReportKinds:ArgC ((Int)×Unit):=(acS (cInt .i64) ac0)
abbrev yq_ReportKinds:Prop:=CallsG Tryz.prog 6 powT ya_ReportKinds (fun p:(Int)×Unit=>yc_ReportKinds p.1) (fun p:(Int)×Unit=>yr_ReportKinds p.1)
set_option maxRecDepth 20000 in set_option maxHeartbeats 4000000 in
theorem y_ReportKinds:yq_ReportKinds:=by
 rintro ⟨k,_u⟩ w fz xs hT hc hfz hl hx
 have hG:=staysN_clX powT_keptB powT_size (fz:=fz) hT
 refine calls_toL Tryz.func6 rfl w fz [(yp_known29 hG),yp_rpkind,yp_rKind,yp_PlaceE] [] ya_ReportKinds (fun p:(Int)×Unit=>yr_ReportKinds p.1) _ xs hfz hl hx (Nat.le_of_ble_eq_true rfl) ?_
 clear hx hl hfz xs
 simp only[Tryz.f6]
 simp only[↓eB,seval,go_sem,yp_known29,yg_known29,yp_rpkind,yr_rpkind,yp_rKind,yr_rKind,yp_PlaceE,yr_PlaceE,beq_self_eq_true]
 try simp only[impB,impN]
 repeat' first|exact ck|with_reducible apply And.intro|intro _
 all_goals first|exact trivial|exact rfl|(rename_i h;first|exact oI h|exact nah h)|(rename_i _ h _ g;exact sL h g)|decide|omega|(refine ret_with [] ?_;simp only[↓eB,seval,go_sem,bne,yr_ReportKinds])
end Go.Proofs.YtbiepiggmagfcaaGreatDoor
namespace Go.Sy
open Go Go.RowKit Go.ChangeShapes Go.WideShapes Go.ChangeAt
def OpnF {H:Type} (enc:TypeId×Value→H) (P:Program) (W:World) (t:TypeId) (fuel:Nat) {A:Type} (e:A→List D) (Q:A→Prop):Prop:=
 ∀(cs:List Value) (x:DataW H×List MemPlace),DataW.trod enc P W 0 (fun _=>true) true fuel t cs=some x→
  ∃a:A,Q a∧(e a).length=cs.length∧∀(j:Nat) (d:D),(e a)[j]?=some d→∃v,cs[j]?=some v∧Rd (hp W) (fun b=>b<W.heap.size) d v
section
variable {H:Type} {enc:TypeId×Value→H} {P:Program} {W:World} {t:TypeId} {fuel:Nat} {A B:Type} {e:A→List D} {Q:A→Prop}
theorem opnF_zero:OpnF enc P W t 0 e Q:=by intro cs x h;simp[DataW.trod]at h
theorem opnF_map (f:A→B) (e':B→List D) (Q':B→Prop) (h:OpnF enc P W t fuel e Q) (he:∀a,e' (f a)=e a) (hq:∀a,Q a→Q' (f a)):OpnF enc P W t fuel e' Q':=by
 intro cs x hx
 obtain⟨a,h1,h2,h3⟩:=h cs x hx
 exact⟨f a,hq a h1,by rw[he];exact h2,by rw[he];exact h3⟩
theorem opn_one {d:D} {v:Value} (r:Rd (hp W) (fun b=>b<W.heap.size) d v):∀(j:Nat) (d':D),[d][j]?=some d'→∃v',[v][j]?=some v'∧Rd (hp W) (fun b=>b<W.heap.size) d' v':=by
 intro j d' h
 cases j with
 |zero=>simp only[List.getElem?_cons_zero,Option.some.injEq]at h;subst h;exact⟨v,rfl,r⟩
 |succ j=>simp at h
theorem opnF_int {k:IntKind} (ht:P.underlying t=some (.int k)):OpnF enc P W t fuel (fun n:Int=>[.v (.int k n)]) (fun n=>(Lit.int k n).wf=true):=by
 intro cs x h
 obtain⟨n,rfl,_,hw⟩:=DataW.trod_int ht h
 exact⟨n,hw,rfl,opn_one (.v _ rfl)⟩
theorem opnF_str (ht:P.underlying t=some .string):OpnF enc P W t fuel (fun l:List UInt8=>[.v (.string (bs l))]) (fun l=>l.length≤maxLen):=by
 intro cs x h
 obtain⟨s,rfl,_,hs⟩:=DataW.trod_string ht h
 refine⟨s.toList,by rw[size_toList]at hs;exact hs,rfl,?_⟩
 simp only[bs_of]
 exact opn_one (.v _ rfl)
theorem cells_get {a:Addr} {n:Nat} {cs:List Value} (h:W.cells? 0 a n=some cs):cs.length=n∧∀j,j<n→W.cell? (a.add j)=cs[j]?:=by
 unfold World.cells? at h
 rw[if_pos (Nat.zero_le _)]at h
 exact⟨by simpa using mapM_some_length h,fun j hj=>mapM_some_get h j j (by simp[hj])⟩
theorem cell_spot {a:Addr} {v:Value} (h:W.cell? a=some v):a.spot=none∧∃arr T m,W.heap[a.block]?=some (.cells arr T m)∧arr[a.off]?=some v:=by
 unfold World.cell? at h
 split at h
 ·rename_i c e m hh
  split at h
  ·cases h
  ·rename_i hs
   exact⟨by simpa using hs,c,e,m,hh,h⟩
 ·cases h
theorem addr_add0 (a:Addr):a.add 0=a:=rfl
theorem addr_addn (b off k:Nat):(⟨b,off,none⟩:Addr).add k=⟨b,off+k,none⟩:=by
 unfold Addr.add
 split
 ·rename_i h0
  have h0:k=0:=by simpa using h0
  subst h0;rfl
 ·rfl
theorem opnF_ptr {et:TypeId} (ht:P.underlying t=some (.pointer et)) (hp0:0<P.cellsOf et) (h:OpnF enc P W et fuel e Q) :
  OpnF enc P W t (fuel+1) (fun o:Option A=>[.pt (o.map e)]) (fun o=>∀a,o=some a→Q a):=by
 intro cs x hx
 rcases DataW.trod_pointer ht hx with⟨rfl,_⟩|⟨a,cs',y,n,hn,rfl,_,hcs,hy⟩
 ·exact⟨none,by simp,rfl,opn_one .pnil⟩
 ·obtain rfl:fuel=n:=by omega
  obtain⟨b,h1,h2,h3⟩:=h cs' y hy
  obtain⟨c1,c2⟩:=cells_get hcs
  obtain⟨v0,hv0⟩:∃v,cs'[0]?=some v:=⟨_,List.getElem?_eq_getElem (by omega)⟩
  have h4:=c2 0 hp0
  rw[hv0,addr_add0]at h4
  obtain⟨hspot,arr,T,m,hb,_⟩:=cell_spot h4
  obtain⟨bl,off,spot⟩:=a
  have hspot:spot=none:=hspot
  subst hspot
  have hlt:bl<W.heap.size:=(Array.getElem?_eq_some_iff.1 hb).1
  have hcell:∀(j:Nat) (d:D),(e b)[j]?=some d→∃v,arr[off+j]?=some v∧Rd (hp W) (fun b=>b<W.heap.size) d v:=by
   intro j d hd
   obtain⟨v,h5,h6⟩:=h3 j d hd
   have hj:j<P.cellsOf et:=by have:=(List.getElem?_eq_some_iff.1 h5).1;omega
   have h7:=c2 j hj
   rw[h5,addr_addn]at h7
   obtain⟨_,arr',T',m',g1,g2⟩:=cell_spot h7
   have g1:W.heap[bl]?=some (.cells arr' T' m'):=g1
   have hb:W.heap[bl]?=some (.cells arr T m):=hb
   rw[hb]at g1
   simp only[Option.some.injEq,Obj.cells.injEq]at g1
   obtain⟨rfl,_,_⟩:=g1
   exact⟨v,g2,h6⟩
  refine⟨some b,by rintro a ⟨⟩;exact h1,rfl,opn_one ?_⟩
  refine .pt (e b) bl off arr T m (fun j=>(arr[off+j]?).getD (.bool false)) hlt hb ?_ ?_
  ·intro j d hd
   obtain⟨v,h5,_⟩:=hcell j d hd
   rw[h5];rfl
  ·intro j d hd
   obtain⟨v,h5,h6⟩:=hcell j d hd
   simp only[h5,Option.getD_some]
   exact h6
def OpnL {H:Type} (enc:TypeId×Value→H) (P:Program) (W:World) (fs:List Field) (fuel o n:Nat) {A:Type} (e:A→List D) (Q:A→Prop):Prop:=
 ∀(cs:List Value) (xs:List (DataW H×List MemPlace)),(∀(i:Nat) (f:Field),fs[i]?=some f→DataW.trod enc P W 0 (fun _=>true) true fuel f.type ((cs.drop f.offset).take (P.cellsOf f.type))=xs[i]?)→xs.length=fs.length→cs.length=o+n→
  ∃a:A,Q a∧(e a).length=n∧∀(j:Nat) (d:D),(e a)[j]?=some d→∃v,cs[o+j]?=some v∧Rd (hp W) (fun b=>b<W.heap.size) d v
theorem opnL_nil (o:Nat):OpnL enc P W [] fuel o 0 (fun _:Unit=>[]) (fun _=>True):=by
 intro cs xs _ _ _
 exact⟨(),trivial,rfl,by simp⟩
theorem opnL_cons {f:Field} {fs:List Field} {o m n:Nat} {e2:B→List D} {Q2:B→Prop} (hf:f.offset=o) (hm:P.cellsOf f.type=m) (h1:OpnF enc P W f.type fuel e Q) (h2:OpnL enc P W fs fuel (o+m) n e2 Q2) :
  OpnL enc P W (f::fs) fuel o (m+n) (fun p:A×B=>e p.1++e2 p.2) (fun p=>Q p.1∧Q2 p.2):=by
 intro cs xs hx hl hcl
 have g0:=hx 0 f rfl
 rw[List.getElem?_eq_getElem (by simp[hl]),hf,hm]at g0
 obtain⟨a,a1,a2,a3⟩:=h1 _ _ g0
 obtain⟨b,b1,b2,b3⟩:=h2 cs (xs.drop 1) (fun i g hg=>by
  have:=hx (i+1) g (by simpa using hg)
  rw[this,List.getElem?_drop,Nat.add_comm]) (by simp[hl]) (by omega)
 have hal:(e a).length=m:=by rw[a2,List.length_take,List.length_drop,hcl];omega
 refine⟨(a,b),⟨a1,b1⟩,by simp[hal,b2],fun j d hd=>?_⟩
 simp only at hd
 by_cases hj:j<m
 ·rw[List.getElem?_append_left (by omega)]at hd
  obtain⟨v,v1,v2⟩:=a3 j d hd
  rw[List.getElem?_take,if_pos hj,List.getElem?_drop]at v1
  exact⟨v,v1,v2⟩
 ·rw[List.getElem?_append_right (by omega),hal]at hd
  obtain⟨v,v1,v2⟩:=b3 _ d hd
  exact⟨v,by rw[← v1];congr 1;omega,v2⟩
theorem opnF_struct {fs:Array Field} {n:Nat} (ht:P.underlying t=some (.struct fs)) (hn:P.cellsOf t=n) (h:OpnL enc P W fs.toList fuel 0 n e Q):OpnF enc P W t (fuel+1) e Q:=by
 intro cs x hx
 obtain⟨xs,m,hm,_,hl,hxl,hf⟩:=DataW.trod_struct ht hx
 obtain rfl:fuel=m:=by omega
 obtain⟨a,a1,a2,a3⟩:=h cs xs (fun i f hi=>hf i f (by simpa using hi)) (by simpa using hxl) (by omega)
 exact⟨a,a1,by omega,fun j d hd=>by simpa using a3 j d hd⟩
end
section
variable {H:Type} {enc:TypeId×Value→H} {P:Program} {W:World} {t:TypeId} {A:Type} {e:A→List D} {Q:A→Prop}
end
end Go.Sy
namespace Go.Proofs.YtbiepiggmagfcaaGreatDoor
open Go Go.RowKit Go.ChangeShapes Go.WideShapes Go.ChangeAt
theorem ownK:ownKnob Tryz.prog.godebug=none:=by kernel_rfl
theorem laidK:laidOutB Tryz.prog=true:=by kernel_rfl
theorem trodAll_below {H:Type} {enc:TypeId×Value→H} {P:Program} (hl:laidOutB P=true) {W W':World} (hb:Below W.heap.size W W'):∀(ts:List TypeId) (vs:List Value) (ds:List (DataW H)) (ps:List MemPlace),
  (∀t∈ts,P.readableRec t=true∧t<P.types.size)→DataW.TrodAll enc P W 0 (fun _=>true) true ts vs ds ps→(∀x∈ps,x.block<W.heap.size)→DataW.TrodAll enc P W' 0 (fun b=>decide (b<W.heap.size)) true ts vs ds ps
 |[],vs,ds,ps,_,h,_=>by
  obtain⟨rfl,rfl,rfl⟩:=trodAll_nil h
  exact trodAll_mk0
 |t::ts,vs,ds,ps,hts,h,hlt=>by
  obtain⟨v,vs',d,ds',p,q,rfl,rfl,rfl,h1,h2⟩:=trodAll_cons h
  have ht:=hts t (List.mem_cons_self ..)
  exact trodAll_cons_mk (Below.trod hl ht.1 ht.2 h1 hb fun x hx=>hlt x (List.mem_append_left _ hx))
   (trodAll_below hl hb ts vs' ds' q (fun t' ht'=>hts t' (List.mem_cons_of_mem _ ht')) h2 fun x hx=>hlt x (List.mem_append_right _ hx))
theorem law_post {H:Type} {enc:TypeId×Value→H} {f:Func} {s:ChangeSpec} {W W':World} {args:Array Value} {ds gs:List (DataW H)} {before:List MemPlace} (hW:DataW.Whole enc Tryz.prog f.params.toList s.vars false W args.toList ds gs before)
  (hv:s.vars=[]) (hr:f.resultTypes = #[4]) (hts:∀t∈f.params.toList,Tryz.prog.readableRec t=true∧t<Tryz.prog.types.size)
  (hf:gs=[]→(s.fn H (ds++gs)).results=[.lit (.bool true)]∧(s.fn H (ds++gs)).args=ds∧(s.fn H (ds++gs)).vars=[]) (hb:Below W.heap.size W W') :
  s.post enc Tryz.prog f false true false false W args (.bool true) W':=by
 have hlt:=hW.lt
 have hW0:=hW
 obtain⟨p,q,hA,hV,rfl,_,_⟩:=hW
 rw[hv]at hV
 obtain⟨rfl,rfl⟩:=trodVars_none hV
 obtain⟨f1,f2,f3⟩:=hf rfl
 refine⟨ds,[],p++[],[],p,[],hW0,?_,?_,?_,hb.frame _,fun h=>by cases h⟩
 ·rw[f1,hr]
  exact trodAll_cons_mk (shut_bool Tryz.underlying4 true) trodAll_mk0
 ·rw[f2]
  exact trodAll_below laidK hb _ _ _ _ hts hA fun x hx=>by simpa using hlt x (List.mem_append_left _ hx)
 ·rw[f3,hv];rfl
end Go.Proofs.YtbiepiggmagfcaaGreatDoor
namespace Go.Proofs.YtbiepiggmagfcaaGreatDoor
open Go Go.Sy Go.RowKit Go.ChangeShapes Go.WideShapes Go.ChangeAt
theorem to_plainL {P:Program} {f:FuncId} {T:World→Prop} {A:Type} {ac:ArgC A} {Cd:A→Prop} {F:A→SV} (h:CallsG P f T ac Cd F) (a:A) (w:World) (hT:T w) (hc:Cd a) (vals:List Value) (val:Value) (hl:vals.length=(ac.e a).length)
  (h1:∀(j:Nat) (v:SV) (x:Value),(ac.e a)[j]?=some v→vals[j]?=some x→CD (hp w) (fun b=>b<w.heap.size) v x)
  (h2:clos (F a)=some val):Calls P f vals.toArray w (fun e w'=>e= .returned val∧Below w.heap.size w w'):=by
 refine(h a w (fun b=>b<w.heap.size) vals hT hc (fun _ h=>h) hl h1).mono ?_
 rintro e w' ⟨v,x,fz',rfl,rfl,g1,g2,g3,g4,g5,g6⟩
 rw[sd_clos g5 h2]
 exact⟨rfl,g6⟩
theorem pow_data:(Rows.laid_internal_strconv_uint64pow10:DataW Unit)=Lib.tabData .u64 Lib.pow10Tab:=by kernel_rfl
theorem pow_type:((Tryz.prog.globalNamed "internal/strconv.uint64pow10").bind fun g=>(Tryz.prog.globals[g]?).map (·.type))=some 191:=by kernel_rfl
section
variable {H:Type} {enc:TypeId×Value→H} {W:World}
theorem opnF_mapR {P:Program} {t:TypeId} {fuel:Nat} {A B:Type} {e:A→List D} {Q:A→Prop} (f:A→B) (e':B→List D) (Q':B→Prop) (h:OpnF enc P W t fuel e Q) (hl:∀a,(e' (f a)).length=(e a).length)
  (hr:∀a (j:Nat) (d':D),(e' (f a))[j]?=some d'→∃d,(e a)[j]?=some d∧∀v,Rd (hp W) (fun b=>b<W.heap.size) d v→Rd (hp W) (fun b=>b<W.heap.size) d' v) (hq:∀a,Q a→Q' (f a)):OpnF enc P W t fuel e' Q':=by
 intro cs x hx
 obtain⟨a,h1,h2,h3⟩:=h cs x hx
 refine⟨f a,hq a h1,by rw[hl];exact h2,fun j d' hj=>?_⟩
 obtain⟨d,g1,g2⟩:=hr a j d' hj
 obtain⟨v,g3,g4⟩:=h3 j d g1
 exact⟨v,g3,g2 v g4⟩
theorem wf_w64 {n:Int} (h:(Lit.int .i64 n).wf=true):w64 n:=by
 have:=bounds_i64 h;exact⟨by omega,by omega⟩
abbrev ExT:Type:=Int×Int×List UInt8×Ex×Ex×Unit
def exTf:Option ExT→Ex
 |none=>.nil
 |some (k,n,s,a,b,_)=>.mk k n s a b
def exTe (p:ExT):List D:=[dI p.1]++([dI p.2.1]++([dS p.2.2.1]++([p.2.2.2.1.d]++([p.2.2.2.2.1.d]++[]))))
def exTq (p:ExT):Prop:=(Lit.int .i64 p.1).wf=true∧(Lit.int .i64 p.2.1).wf=true∧p.2.2.1.length≤maxLen∧okN p.2.2.2.1∧okN p.2.2.2.2.1∧True
set_option maxRecDepth 100000 in
mutual
theorem opn_ex:∀fuel,OpnF enc Tryz.prog W 68 fuel (fun e:Ex=>[e.d]) okN
 |0=>opnF_zero
 |n+1=>by
  refine opnF_mapR exTf _ _ (opnF_ptr Tryz.underlying68 (Nat.lt_of_lt_of_eq (Nat.succ_pos 4) (by kernel_rfl)) (opn_exS n)) (fun _=>rfl) ?_ ?_
  ·rintro o j d' hj
   cases j with
   |zero=>
    simp only[List.getElem?_cons_zero,Option.some.injEq]at hj
    subst hj
    cases o with
    |none=>exact⟨_,rfl,fun v r=>by cases r;exact .v _ rfl⟩
    |some u=>exact⟨_,rfl,fun v r=>r⟩
   |succ j=>simp at hj
  ·intro o ho
   cases o with
   |none=>trivial
   |some u=>
    obtain⟨h1,h2,h3,h4,h5,_⟩:=ho u rfl
    exact⟨wf_w64 h2,h4,h5⟩
theorem opn_exS:∀fuel,OpnF enc Tryz.prog W 70 fuel exTe exTq
 |0=>opnF_zero
 |n+1=>by
  refine opnF_map (e':=exTe) (Q':=exTq) id (h:=opnF_struct (n:=5) Tryz.underlying70 (by kernel_rfl) (opnL_cons (m:=1) (n:=4) rfl (by kernel_rfl) (opnF_int Tryz.underlying3) (opnL_cons (m:=1) (n:=3) rfl (by kernel_rfl) (opnF_int Tryz.underlying2) (opnL_cons (m:=1) (n:=2) rfl (by kernel_rfl) (opnF_str Tryz.underlying9) (opnL_cons (m:=1) (n:=1) rfl (by kernel_rfl) (opn_ex n) (opnL_cons (m:=1) (n:=0) rfl (by kernel_rfl) (opn_ex n) (opnL_nil _))))))) (he:=fun _=>rfl) (hq:=fun _ h=>h)
end
end
end Go.Proofs.YtbiepiggmagfcaaGreatDoor
namespace Go.Proofs.YtbiepiggmagfcaaGreatDoor
open Go Go.Sy Go.RowKit Go.ChangeShapes Go.WideShapes Go.ChangeAt
theorem powT_reportKinds {W:World} (h:laidMetH Tryz.prog Rows.reportKindsRow.laid W):powT W:=by
 rw[MakeChecks.laidMetH_plain _ _ _ (by kernel_rfl)]at h
 obtain⟨g,t,cs,fuel,p,h1,h2,h3,h4⟩:=Lib.laidMet.reads h (n := "internal/strconv.uint64pow10") (d:=Rows.laid_internal_strconv_uint64pow10) (.tail _ (.tail _ (.head _)))
 have h5:=pow_type
 rw[h1,Option.bind_some,h2]at h5
 obtain rfl:=Option.some.inj h5
 rw[pow_data]at h4
 unfold powT Lib.TabIs
 rw[h3,← Lib.cells_of_tab Tryz.underlying191 Tryz.underlying139 (by kernel_rfl) (by kernel_rfl) h4]
theorem c_ReportKinds (a0:Int) (w0:(Lit.int .i64 a0).wf=true) (W:World)  (hT:powT W) :
  Calls Tryz.prog 6 #[.int .i64 a0] W (fun en W'=>en= .returned (.bool true)∧Below W.heap.size W W'):=by
 refine to_plainL y_ReportKinds (a0,()) W hT trivial [.int .i64 a0] (.bool true) rfl ?_ rfl
 intro j u x h1 h2
 rcases j with _|j
 ·obtain rfl:Value.int .i64 a0=x:=Option.some.inj h2
  obtain rfl:SV.one (.v (.int .i64 a0))=u:=Option.some.inj h1
  exact sc_of (H:=fun _=>none) (c:=.v _) rfl (.v _ _ rfl)
 ·exact absurd (show ([]:List Value)[j]?=some x from h2) (by simp)
end Go.Proofs.YtbiepiggmagfcaaGreatDoor
