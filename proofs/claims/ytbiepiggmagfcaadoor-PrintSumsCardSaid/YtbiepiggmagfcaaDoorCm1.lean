/- Trees that are the same are told to be the same. No conditions but those in each statement. -/
import Derived.Test.YtbiepiggmagfcaaDoorPi1
import Derived.Test.YtbiepiggmagfcaaDoorPk3
import Derived.Test.YtbiepiggmagfcaaDoorPa9
import Derived.Test.YtbiepiggmagfcaaDoorSyC
import Derived.Deep.Draws
import Derived.LaidMore
import Derived.ProofKit
import Derived.OpenShut
set_option linter.unusedVariables false
set_option linter.unusedSimpArgs false
namespace Go.Proofs.YtbiepiggmagfcaaDoor
open Go Go.Sy Go.RowKit
abbrev yc_eqE (n:Nat) (a:Ex) (b:Ex):Prop:=a=b∧a.dp<n
abbrev yr_eqE (n:Nat) (a:Ex) (b:Ex):SV:=.one (.v (.bool true))
noncomputable abbrev ya_eqE:ArgC ((Ex)×(Ex)×Unit):=(acS (cEx) (acS (cEx) ac0))
abbrev yq_eqE (n:Nat):Prop:=CallsY Tryd.prog 22 ya_eqE (fun p:(Ex)×(Ex)×Unit=>yc_eqE n p.1 p.2.1) (fun p:(Ex)×(Ex)×Unit=>yr_eqE n p.1 p.2.1)
theorem yn_eqE (n:Nat):∀p:(Ex)×(Ex)×Unit,((fun p:(Ex)×(Ex)×Unit=>yr_eqE n p.1 p.2.1) p).names=[]:=by intro p;first|rfl|exact ex_names _|exact cd_names _
noncomputable def yg_eqE {X:Ctx} {w0:World} (n:Nat) (h:yq_eqE n):Sy.Spec Tryd.prog X w0:=specD 22 Tryd.call22 ya_eqE (fun p:(Ex)×(Ex)×Unit=>yc_eqE n p.1 p.2.1) (fun p:(Ex)×(Ex)×Unit=>yr_eqE n p.1 p.2.1) (yn_eqE n) h
abbrev yr_eqC (n:Nat) (a:Cd) (b:Cd):SV:=.one (.v (.bool true))
abbrev yr_eqS (n:Nat) (m:Nat) (a:Sm) (b:Sm):SV:=.one (.v (.bool true))
abbrev yr_eqB (n:Nat) (m:Nat) (a:List Sm) (b:List Sm):SV:=.one (.v (.bool true))
attribute [local go_sem] cEx_e cEx_d cEx_n cCd_e cCd_d cCd_n cSm_e cSm_d cSs_e cSs_d Sm.c Sm.k Sm.x Sm.y Sm.e Sm.f Sm.cd Sm.ar Sm.th Sm.el Sm.no sm_r pairO_n pairN_o spFn_n yr_eqE yr_eqC yr_eqS yr_eqB yg_eqE
set_option maxRecDepth 20000 in set_option maxHeartbeats 8000000 in
theorem y_eqES (n:Nat) (hu:yq_eqE n):yq_eqE (n+1):=by
 rintro ⟨a,b,_u⟩ w fz xs hc hfz hl hx
 refine calls_toL Tryd.func22 rfl w fz [(yg_eqE n hu)] [] ya_eqE (fun p:(Ex)×(Ex)×Unit=>yr_eqE (n+1) p.1 p.2.1) _ xs hfz hl hx (Nat.le_of_ble_eq_true rfl) ?_
 clear hx hl hfz xs
 simp only[Tryd.f22]
 obtain⟨hc1,hc2⟩:=hc
 dsimp only at hc1 hc2
 subst hc1
 cases a with
 |nil=>
  simp only[↓eB,seval,go_sem,beq_self_eq_true,bne_self_eq_false,ex_nil]
  try simp only[impB,impN]
  repeat' first|exact ck|with_reducible apply And.intro|intro _
  all_goals first|exact trivial|(rename_i h;first|exact oI h|exact nah h)|(rename_i _ h _ g;exact sL h g)|decide|omega|(refine ret_with [] ?_;simp only[↓eB,seval,go_sem,bne])
 |mk k n' s a b=>
  simp only[Ex.dp]at hc2
  have h1:yc_eqE n a a:=⟨rfl,by omega⟩
  have h2:yc_eqE n b b:=⟨rfl,by omega⟩
  simp only[↓eB,seval,go_sem,beq_self_eq_true,bne_self_eq_false,ex_mk]
  try simp only[impB,impN]
  repeat' first|exact ck|with_reducible apply And.intro|intro _
  all_goals first|exact h1.2|exact h2.2|exact rfl|(rename_i h;first|exact oI h|exact nah h)|(rename_i _ h _ g;exact sL h g)|decide|omega|(refine ret_with [] ?_;simp only[↓eB,seval,go_sem,bne])
theorem y_eqE:∀n:Nat,yq_eqE n
 |0=>by
  rintro ⟨a,b,_u⟩ w fz xs hc hfz hl hx
  exact absurd hc.2 (Nat.not_lt_zero _)
 |n+1=>y_eqES n (y_eqE n)
end Go.Proofs.YtbiepiggmagfcaaDoor
namespace Go.Proofs.YtbiepiggmagfcaaDoor
open Go Go.Sy Go.RowKit
abbrev yc_PrintSums (m:Nat) (e:Ex):Prop:=e.dp<m∧okN e
abbrev yr_PrintSums (m:Nat) (e:Ex):SV:=.one (.v (.bool true))
noncomputable abbrev ya_PrintSums:ArgC ((Ex)×Unit):=(acS (cEx) ac0)
abbrev yq_PrintSums (m:Nat):Prop:=CallsG Tryd.prog 6 powT ya_PrintSums (fun p:(Ex)×Unit=>yc_PrintSums m p.1) (fun p:(Ex)×Unit=>yr_PrintSums m p.1)
attribute [local go_sem] cEx_e cEx_d cEx_n cEx_dp mIn_d mIn_e mIn_z zIn1_t zIn1_ln inR pairO_n pairN_o spFn_n cFn_e cFn_d yp_pknown yg_pknown yg_LightE yg_RightE yg_plain
set_option maxRecDepth 20000 in set_option maxHeartbeats 4000000 in
theorem y_PrintSums (m:Nat):yq_PrintSums m:=by
 rintro ⟨e,_u⟩ w fz xs hT hc hfz hl hx
 have hG:=staysN_clX powT_keptB powT_size (fz:=fz) hT
 refine calls_toL Tryd.func6 rfl w fz [(yp_pknown hG),(yg_LightE m (y_LightE m)),(yg_RightE m (y_RightE m)),(yg_plain m (y_plain m)),(yg_Expr m (y_Expr m) hG),yp_Func,(yg_eqE m (y_eqE m))] [] ya_PrintSums (fun p:(Ex)×Unit=>yr_PrintSums m p.1) _ xs hfz hl hx (Nat.le_of_ble_eq_true rfl) ?_
 clear hx hl hfz xs
 simp only[Tryd.f6]
 obtain⟨h1,h2⟩:=hc
 dsimp only at h1 h2
 cases c1:(lgE e 40 12).1 with
 |false=>
  simp only[↓eB,seval,go_sem,c1]
  try simp only[impB,impN]
  repeat' first|exact ck|with_reducible apply And.intro|intro _
  all_goals first|exact h1|(rename_i h;first|exact oI h|exact nah h)|(rename_i _ h _ g;exact sL h g)|decide|omega|(refine ret_with [] ?_;simp only[↓eB,seval,go_sem,bne,yr_PrintSums])
 |true=>
 cases c2:riE e with
 |false=>
  simp only[↓eB,seval,go_sem,c1,c2]
  try simp only[impB,impN]
  repeat' first|exact ck|with_reducible apply And.intro|intro _
  all_goals first|exact h1|(rename_i h;first|exact oI h|exact nah h)|(rename_i _ h _ g;exact sL h g)|decide|omega|(refine ret_with [] ?_;simp only[↓eB,seval,go_sem,bne,yr_PrintSums])
 |true=>
 cases c3:plB e with
 |false=>
  simp only[↓eB,seval,go_sem,c1,c2,c3]
  try simp only[impB,impN]
  repeat' first|exact ck|with_reducible apply And.intro|intro _
  all_goals first|exact h1|(rename_i h;first|exact oI h|exact nah h)|(rename_i _ h _ g;exact sL h g)|decide|omega|(refine ret_with [] ?_;simp only[↓eB,seval,go_sem,bne,yr_PrintSums])
 |true=>
 have g2:=lg_len e 40 12 (by decide) h2 c1
 obtain⟨b1,b2,b3⟩:=lgE_b e 40 12 (by decide)
 have g3:(exT e).length≤1000000000:=by omega
 have g4:=lg_dp e 40 12 (by decide) c1
 have hF:=ps_fun (ri_re e c2 c3 h2) (by omega) (by omega)
 simp only[psT,List.cons_append,List.nil_append]at hF
 have g5:smallB (psT e):=by
  unfold smallB psT
  simp only[List.length_append,List.length_cons,List.length_nil];omega
 simp only[psT,List.cons_append,List.nil_append]at g5
 have g6:yc_eqE m e e:=⟨rfl,h1⟩
 simp only[↓eB,seval,go_sem,yg_Expr,yp_Func,yr_Func,yg_eqE,c1,c2,c3,hF,Fn.c,sm_r,Sm.k,Sm.x,Sm.y,Sm.e,Sm.f,Sm.cd,Sm.ar,Sm.th,Sm.el,Sm.no]
 try simp only[impB,impN]
 repeat' first|exact ck|with_reducible apply And.intro|intro _
 all_goals first|exact h1|exact h2|exact g3|exact g5|exact g6|exact rfl|(rename_i h;first|exact oI h|exact nah h)|(rename_i _ h _ g;exact sL h g)|decide|omega|(refine ret_with [] ?_;simp only[↓eB,seval,go_sem,bne,yr_PrintSums])
end Go.Proofs.YtbiepiggmagfcaaDoor
namespace Go.Sy
open Go Go.RowKit Go.ChangeShapes Go.WideShapes Go.ChangeAt
def OpnF {H:Type} (enc:TypeId×Value→H) (P:Program) (W:World) (t:TypeId) (fuel:Nat) {A:Type} (e:A→List D) (Q:A→Prop):Prop:=
 ∀(cs:List Value) (x:DataW H×List MemPlace),DataW.trod enc P W 0 (fun _=>true) true fuel t cs=some x→
  ∃a:A,Q a∧(e a).length=cs.length∧∀(j:Nat) (d:D),(e a)[j]?=some d→∃v,cs[j]?=some v∧Rd (hp W) (fun b=>b<W.heap.size) d v
abbrev Opn {H:Type} (enc:TypeId×Value→H) (P:Program) (W:World) (t:TypeId) {A:Type} (e:A→List D) (Q:A→Prop):Prop:=∀fuel,OpnF enc P W t fuel e Q
section
variable {H:Type} {enc:TypeId×Value→H} {P:Program} {W:World} {t:TypeId} {fuel:Nat} {A B:Type} {e:A→List D} {Q:A→Prop}
theorem opnF_zero:OpnF enc P W t 0 e Q:=by intro cs x h;simp[DataW.trod]at h
theorem opnF_map (f:A→B) (e':B→List D) (Q':B→Prop) (h:OpnF enc P W t fuel e Q) (he:∀a,e' (f a)=e a) (hq:∀a,Q a→Q' (f a)):OpnF enc P W t fuel e' Q':=by
 intro cs x hx
 obtain⟨a,h1,h2,h3⟩:=h cs x hx
 exact⟨f a,hq a h1,by rw[he];exact h2,by rw[he];exact h3⟩
theorem opn_one {d:D} {v:Value} (r:Rd (hp W) (fun b=>b<W.heap.size) d v):∀(j:Nat) (d':D),[d][j]?=some d'→∃v',[v][j]?=some v'∧Rd (hp W) (fun b=>b<W.heap.size) d' v':=by
 intro j d' h
 cases j with
 |zero=>simp only[List.getElem?_cons_zero,Option.some.injEq]at h;subst h;exact⟨v,rfl,r⟩
 |succ j=>simp at h
theorem opnF_int {k:IntKind} (ht:P.underlying t=some (.int k)):OpnF enc P W t fuel (fun n:Int=>[.v (.int k n)]) (fun n=>(Lit.int k n).wf=true):=by
 intro cs x h
 obtain⟨n,rfl,_,hw⟩:=DataW.trod_int ht h
 exact⟨n,hw,rfl,opn_one (.v _ rfl)⟩
theorem opnF_str (ht:P.underlying t=some .string):OpnF enc P W t fuel (fun l:List UInt8=>[.v (.string (bs l))]) (fun l=>l.length≤maxLen):=by
 intro cs x h
 obtain⟨s,rfl,_,hs⟩:=DataW.trod_string ht h
 refine⟨s.toList,by rw[size_toList]at hs;exact hs,rfl,?_⟩
 simp only[bs_of]
 exact opn_one (.v _ rfl)
theorem cells_get {a:Addr} {n:Nat} {cs:List Value} (h:W.cells? 0 a n=some cs):cs.length=n∧∀j,j<n→W.cell? (a.add j)=cs[j]?:=by
 unfold World.cells? at h
 rw[if_pos (Nat.zero_le _)]at h
 exact⟨by simpa using mapM_some_length h,fun j hj=>mapM_some_get h j j (by simp[hj])⟩
theorem cell_spot {a:Addr} {v:Value} (h:W.cell? a=some v):a.spot=none∧∃arr T m,W.heap[a.block]?=some (.cells arr T m)∧arr[a.off]?=some v:=by
 unfold World.cell? at h
 split at h
 ·rename_i c e m hh
  split at h
  ·cases h
  ·rename_i hs
   exact⟨by simpa using hs,c,e,m,hh,h⟩
 ·cases h
theorem addr_add0 (a:Addr):a.add 0=a:=rfl
theorem addr_addn (b off k:Nat):(⟨b,off,none⟩:Addr).add k=⟨b,off+k,none⟩:=by
 unfold Addr.add
 split
 ·rename_i h0
  have h0:k=0:=by simpa using h0
  subst h0;rfl
 ·rfl
theorem opnF_ptr {et:TypeId} (ht:P.underlying t=some (.pointer et)) (hp0:0<P.cellsOf et) (h:OpnF enc P W et fuel e Q) :
  OpnF enc P W t (fuel+1) (fun o:Option A=>[.pt (o.map e)]) (fun o=>∀a,o=some a→Q a):=by
 intro cs x hx
 rcases DataW.trod_pointer ht hx with⟨rfl,_⟩|⟨a,cs',y,n,hn,rfl,_,hcs,hy⟩
 ·exact⟨none,by simp,rfl,opn_one .pnil⟩
 ·obtain rfl:fuel=n:=by omega
  obtain⟨b,h1,h2,h3⟩:=h cs' y hy
  obtain⟨c1,c2⟩:=cells_get hcs
  obtain⟨v0,hv0⟩:∃v,cs'[0]?=some v:=⟨_,List.getElem?_eq_getElem (by omega)⟩
  have h4:=c2 0 hp0
  rw[hv0,addr_add0]at h4
  obtain⟨hspot,arr,T,m,hb,_⟩:=cell_spot h4
  obtain⟨bl,off,spot⟩:=a
  have hspot:spot=none:=hspot
  subst hspot
  have hlt:bl<W.heap.size:=(Array.getElem?_eq_some_iff.1 hb).1
  have hcell:∀(j:Nat) (d:D),(e b)[j]?=some d→∃v,arr[off+j]?=some v∧Rd (hp W) (fun b=>b<W.heap.size) d v:=by
   intro j d hd
   obtain⟨v,h5,h6⟩:=h3 j d hd
   have hj:j<P.cellsOf et:=by have:=(List.getElem?_eq_some_iff.1 h5).1;omega
   have h7:=c2 j hj
   rw[h5,addr_addn]at h7
   obtain⟨_,arr',T',m',g1,g2⟩:=cell_spot h7
   have g1:W.heap[bl]?=some (.cells arr' T' m'):=g1
   have hb:W.heap[bl]?=some (.cells arr T m):=hb
   rw[hb]at g1
   simp only[Option.some.injEq,Obj.cells.injEq]at g1
   obtain⟨rfl,_,_⟩:=g1
   exact⟨v,g2,h6⟩
  refine⟨some b,by rintro a ⟨⟩;exact h1,rfl,opn_one ?_⟩
  refine .pt (e b) bl off arr T m (fun j=>(arr[off+j]?).getD (.bool false)) hlt hb ?_ ?_
  ·intro j d hd
   obtain⟨v,h5,_⟩:=hcell j d hd
   rw[h5];rfl
  ·intro j d hd
   obtain⟨v,h5,h6⟩:=hcell j d hd
   simp only[h5,Option.getD_some]
   exact h6
def OpnL {H:Type} (enc:TypeId×Value→H) (P:Program) (W:World) (fs:List Field) (fuel o n:Nat) {A:Type} (e:A→List D) (Q:A→Prop):Prop:=
 ∀(cs:List Value) (xs:List (DataW H×List MemPlace)),(∀(i:Nat) (f:Field),fs[i]?=some f→DataW.trod enc P W 0 (fun _=>true) true fuel f.type ((cs.drop f.offset).take (P.cellsOf f.type))=xs[i]?)→xs.length=fs.length→cs.length=o+n→
  ∃a:A,Q a∧(e a).length=n∧∀(j:Nat) (d:D),(e a)[j]?=some d→∃v,cs[o+j]?=some v∧Rd (hp W) (fun b=>b<W.heap.size) d v
theorem opnL_nil (o:Nat):OpnL enc P W [] fuel o 0 (fun _:Unit=>[]) (fun _=>True):=by
 intro cs xs _ _ _
 exact⟨(),trivial,rfl,by simp⟩
theorem opnL_cons {f:Field} {fs:List Field} {o m n:Nat} {e2:B→List D} {Q2:B→Prop} (hf:f.offset=o) (hm:P.cellsOf f.type=m) (h1:OpnF enc P W f.type fuel e Q) (h2:OpnL enc P W fs fuel (o+m) n e2 Q2) :
  OpnL enc P W (f::fs) fuel o (m+n) (fun p:A×B=>e p.1++e2 p.2) (fun p=>Q p.1∧Q2 p.2):=by
 intro cs xs hx hl hcl
 have g0:=hx 0 f rfl
 rw[List.getElem?_eq_getElem (by simp[hl]),hf,hm]at g0
 obtain⟨a,a1,a2,a3⟩:=h1 _ _ g0
 obtain⟨b,b1,b2,b3⟩:=h2 cs (xs.drop 1) (fun i g hg=>by
  have:=hx (i+1) g (by simpa using hg)
  rw[this,List.getElem?_drop,Nat.add_comm]) (by simp[hl]) (by omega)
 have hal:(e a).length=m:=by rw[a2,List.length_take,List.length_drop,hcl];omega
 refine⟨(a,b),⟨a1,b1⟩,by simp[hal,b2],fun j d hd=>?_⟩
 simp only at hd
 by_cases hj:j<m
 ·rw[List.getElem?_append_left (by omega)]at hd
  obtain⟨v,v1,v2⟩:=a3 j d hd
  rw[List.getElem?_take,if_pos hj,List.getElem?_drop]at v1
  exact⟨v,v1,v2⟩
 ·rw[List.getElem?_append_right (by omega),hal]at hd
  obtain⟨v,v1,v2⟩:=b3 _ d hd
  exact⟨v,by rw[← v1];congr 1;omega,v2⟩
theorem opnF_struct {fs:Array Field} {n:Nat} (ht:P.underlying t=some (.struct fs)) (hn:P.cellsOf t=n) (h:OpnL enc P W fs.toList fuel 0 n e Q):OpnF enc P W t (fuel+1) e Q:=by
 intro cs x hx
 obtain⟨xs,m,hm,_,hl,hxl,hf⟩:=DataW.trod_struct ht hx
 obtain rfl:fuel=m:=by omega
 obtain⟨a,a1,a2,a3⟩:=h cs xs (fun i f hi=>hf i f (by simpa using hi)) (by simpa using hxl) (by omega)
 exact⟨a,a1,by omega,fun j d hd=>by simpa using a3 j d hd⟩
end
section
variable {H:Type} {enc:TypeId×Value→H} {P:Program} {W:World} {t:TypeId} {A:Type} {e:A→List D} {Q:A→Prop}
theorem sd_oD {h:Heap} {fz:Nat→Prop} {d:D} {x:Value} (r:Rd h fz d x):CD h fz (.one (oD d)) x:=sc_of (H:=fun _=>none) (oD_stor d) (den_oD r)
theorem open_one {r:Reach} {base:Nat} {v:Value} {d:DataW H} {p:List MemPlace} {f:A→D} (hv:v.cells.toList=[v]) (h:DataW.Trod enc P W 0 (fun _=>true) true t v d p) (ho:Opn enc P W t (fun a=>[f a]) Q) :
  ∃a:A,Q a∧CD (hp W) (fun b=>b<W.heap.size) (.one (oD (f a))) v:=by
 obtain⟨fuel,hf⟩:=h
 obtain⟨a,a1,a2,a3⟩:=ho fuel _ _ hf
 obtain⟨v',v1,v2⟩:=a3 0 (f a) rfl
 rw[hv]at v1
 simp only[List.getElem?_cons_zero,Option.some.injEq]at v1
 subst v1
 exact⟨a,a1,sd_oD v2⟩
end
end Go.Sy
