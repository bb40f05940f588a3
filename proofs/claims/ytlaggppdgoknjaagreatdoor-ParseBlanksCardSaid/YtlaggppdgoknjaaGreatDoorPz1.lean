/- The chapter's example, parsed. No conditions but those in each statement. -/
import Derived.Test.YtlaggppdgoknjaaGreatDoorPq15
import Derived.Test.YtlaggppdgoknjaaGreatDoorSyC
import Derived.Deep.Draws
import Derived.LaidMore
import Derived.ProofKit
import Derived.OpenShut
import Derived.Test.YtlaggppdgoknjaaGreatDoorMk5
set_option linter.unusedVariables false
set_option linter.unusedSimpArgs false
namespace Go.Proofs.YtlaggppdgoknjaaGreatDoor
open Go Go.Sy Go.RowKit
theorem yn_qFunc:∀p:List UInt8×Unit,(yr_qFunc p.1).names=[]:=by intro p;first|rfl|simp[SV.names,C.names]
noncomputable def yp_qFunc {X:Ctx} {w0:World}:Sy.Spec Tryz.prog X w0:=specD 9 Tryz.call9 (acS cStr ac0) (fun p:List UInt8×Unit=>smallB p.1) (fun p=>yr_qFunc p.1) yn_qFunc y_qFunc
theorem yn_qGlobals:∀p:List UInt8×Unit,(yr_qGlobals p.1).names=[]:=by intro p;first|rfl|simp[SV.names,C.names]
noncomputable def yp_qGlobals {X:Ctx} {w0:World}:Sy.Spec Tryz.prog X w0:=specD 12 Tryz.call12 (acS cStr ac0) (fun p:List UInt8×Unit=>smallB p.1) (fun p=>yr_qGlobals p.1) yn_qGlobals y_qGlobals
def zE1:Ex:=.mk 2 0 [] (.mk 1 0 [120] .nil .nil) (.mk 0 1 [] .nil .nil)
theorem zf1:funF [102,110,32,102,40,120,41,32,123,32,114,101,116,117,114,110,32,120,32,43,32,49,59,32,125]=(⟨[102],[⟨[120],false⟩],[],[.mk 9 [] [] zE1 .nil .nil [] [] [] 0]⟩,0,0):=by kernel_rfl
theorem zf2:(funF [102,110,32,102,40,120,41,32,123,32,114,101,116,117,114,110,32,59,32,125]).2.1=17:=by kernel_rfl
theorem zf2':(funF [102,110,32,102,40,120,41,32,123,32,114,101,116,117,114,110,32,59,32,125]).2.2=51:=by kernel_rfl
theorem zg3:gloQ [99,101,108,108,32,99,59,32,97,114,114,97,121,32,97,91,51,93,59]=(⟨[[99]],[⟨[97],3⟩]⟩,0,0):=by kernel_rfl
abbrev yc_known7:Prop:=True
abbrev yr_known7:SV:=.one (.v (.bool true))
set_option maxRecDepth 20000 in set_option maxHeartbeats 4000000 in
theorem y_known7:CallsY Tryz.prog 5 ac0 (fun p:Unit=>yc_known7 ) (fun p:Unit=>yr_known7 ):=by
 rintro _u w fz xs hc hfz hl hx
 refine calls_toL Tryz.func5 rfl w fz [yp_qFunc,yp_qGlobals] [] ac0 (fun p:Unit=>yr_known7 ) _ xs hfz hl hx (Nat.le_of_ble_eq_true rfl) ?_
 clear hx hl hfz xs
 simp only[Tryz.f5]
 have s1:smallB [102,110,32,102,40,120,41,32,123,32,114,101,116,117,114,110,32,120,32,43,32,49,59,32,125]:=by unfold smallB;decide
 have s2:smallB [102,110,32,102,40,120,41,32,123,32,114,101,116,117,114,110,32,59,32,125]:=by unfold smallB;decide
 have s3:smallB [99,101,108,108,32,99,59,32,97,114,114,97,121,32,97,91,51,93,59]:=by unfold smallB;decide
 simp only[↓eB,seval,go_sem,yp_qFunc,yp_qGlobals,ex_mk,ex_nil,Ex.isNil,Fn.c,Gl.d,Gy.r,cSd,zSqD,zGyD,Sm.r,zf1,zf2,zf2',zg3,zE1]
 try simp only[impB,impN]
 repeat' first|exact ck|with_reducible apply And.intro|intro _
 all_goals first|exact s1|exact s2|exact s3|(rename_i h;first|exact oI h|exact nah h)|(rename_i _ h _ g;exact sL h g)|decide|omega|(refine ret_with [] ?_;simp only[↓eB,seval,go_sem,bne,yr_known7])
theorem yn_known7:∀p:Unit,((fun p:Unit=>yr_known7 ) p).names=[]:=by intro p;first|rfl|simp[SV.names,C.names]
noncomputable def yp_known7 {X:Ctx} {w0:World}:Sy.Spec Tryz.prog X w0:=specD 5 Tryz.call5 ac0 (fun p:Unit=>yc_known7 ) (fun p:Unit=>yr_known7 ) yn_known7 y_known7
end Go.Proofs.YtlaggppdgoknjaaGreatDoor
namespace Go.Sy
open Go Go.RowKit Go.ChangeShapes Go.WideShapes Go.ChangeAt
def OpnF {H:Type} (enc:TypeId×Value→H) (P:Program) (W:World) (t:TypeId) (fuel:Nat) {A:Type} (e:A→List D) (Q:A→Prop):Prop:=
 ∀(cs:List Value) (x:DataW H×List MemPlace),DataW.trod enc P W 0 (fun _=>true) true fuel t cs=some x→
  ∃a:A,Q a∧(e a).length=cs.length∧∀(j:Nat) (d:D),(e a)[j]?=some d→∃v,cs[j]?=some v∧Rd (hp W) (fun b=>b<W.heap.size) d v
abbrev Opn {H:Type} (enc:TypeId×Value→H) (P:Program) (W:World) (t:TypeId) {A:Type} (e:A→List D) (Q:A→Prop):Prop:=∀fuel,OpnF enc P W t fuel e Q
section
variable {H:Type} {enc:TypeId×Value→H} {P:Program} {W:World} {t:TypeId} {fuel:Nat} {A B:Type} {e:A→List D} {Q:A→Prop}
theorem opnF_zero:OpnF enc P W t 0 e Q:=by intro cs x h;simp[DataW.trod]at h
theorem opnF_map (f:A→B) (e':B→List D) (Q':B→Prop) (h:OpnF enc P W t fuel e Q) (he:∀a,e' (f a)=e a) (hq:∀a,Q a→Q' (f a)):OpnF enc P W t fuel e' Q':=by
 intro cs x hx
 obtain⟨a,h1,h2,h3⟩:=h cs x hx
 exact⟨f a,hq a h1,by rw[he];exact h2,by rw[he];exact h3⟩
theorem opn_one {d:D} {v:Value} (r:Rd (hp W) (fun b=>b<W.heap.size) d v):∀(j:Nat) (d':D),[d][j]?=some d'→∃v',[v][j]?=some v'∧Rd (hp W) (fun b=>b<W.heap.size) d' v':=by
 intro j d' h
 cases j with
 |zero=>simp only[List.getElem?_cons_zero,Option.some.injEq]at h;subst h;exact⟨v,rfl,r⟩
 |succ j=>simp at h
theorem opnF_int {k:IntKind} (ht:P.underlying t=some (.int k)):OpnF enc P W t fuel (fun n:Int=>[.v (.int k n)]) (fun n=>(Lit.int k n).wf=true):=by
 intro cs x h
 obtain⟨n,rfl,_,hw⟩:=DataW.trod_int ht h
 exact⟨n,hw,rfl,opn_one (.v _ rfl)⟩
theorem cells_get {a:Addr} {n:Nat} {cs:List Value} (h:W.cells? 0 a n=some cs):cs.length=n∧∀j,j<n→W.cell? (a.add j)=cs[j]?:=by
 unfold World.cells? at h
 rw[if_pos (Nat.zero_le _)]at h
 exact⟨by simpa using mapM_some_length h,fun j hj=>mapM_some_get h j j (by simp[hj])⟩
theorem cell_spot {a:Addr} {v:Value} (h:W.cell? a=some v):a.spot=none∧∃arr T m,W.heap[a.block]?=some (.cells arr T m)∧arr[a.off]?=some v:=by
 unfold World.cell? at h
 split at h
 ·rename_i c e m hh
  split at h
  ·cases h
  ·rename_i hs
   exact⟨by simpa using hs,c,e,m,hh,h⟩
 ·cases h
theorem addr_add0 (a:Addr):a.add 0=a:=rfl
theorem addr_addn (b off k:Nat):(⟨b,off,none⟩:Addr).add k=⟨b,off+k,none⟩:=by
 unfold Addr.add
 split
 ·rename_i h0
  have h0:k=0:=by simpa using h0
  subst h0;rfl
 ·rfl
theorem opnF_slice {et:TypeId} (ht:P.underlying t=some (.slice et)) (z:List D) (hz:P.cellsOf et=z.length) (hp0:0<z.length) (h:OpnF enc P W et fuel e Q) :
  OpnF enc P W t (fuel+1) (fun l:List A=>[.sl z (l.map e)]) (fun l=>l.length≤maxLen∧∀a∈l,Q a):=by
 classical
 intro cs x hx
 rcases DataW.trod_slice ht hx with⟨rfl,_⟩|⟨a,len,cap,elems,rest,n,hn,rfl,_,_,hlc,hcm,hlen,hel,_,_⟩
 ·exact⟨[],⟨by simp,by simp⟩,rfl,opn_one (.nil _ _ _ fun _=>rfl)⟩
 ·obtain rfl:fuel=n:=by omega
  by_cases h0:len=0
  ·subst h0
   exact⟨[],⟨by simp,by simp⟩,rfl,opn_one (.nil _ _ _ fun h=>by cases h)⟩
  rw[hz]at hel
  have hE:∀i,i<len→∃cs' b,W.cells? 0 (a.add (i*z.length)) z.length=some cs'∧Q b∧(e b).length=z.length∧∀(j:Nat) (d:D),(e b)[j]?=some d→∃v,cs'[j]?=some v∧Rd (hp W) (fun b=>b<W.heap.size) d v:=by
   intro i hi
   have h1:=hel i hi
   rw[List.getElem?_eq_getElem (by omega)]at h1
   obtain⟨cs',c1,c2⟩:=Option.bind_eq_some_iff.1 h1
   obtain⟨b,b1,b2,b3⟩:=h cs' _ c2
   exact⟨cs',b,c1,b1,by rw[b2,(cells_get c1).1],b3⟩
  have hne:Nonempty A:=by obtain⟨_,b,_⟩:=hE 0 (by omega);exact⟨b⟩
  have hspot:a.spot=none:=by
   obtain⟨cs',_,c1,_⟩:=hE 0 (by omega)
   have h2:=(cells_get c1).2 0 hp0
   rw[Nat.zero_mul,addr_add0,addr_add0]at h2
   have h3:∃v,cs'[0]?=some v:=⟨_,List.getElem?_eq_getElem (by rw[(cells_get c1).1];exact hp0)⟩
   obtain⟨v,hv⟩:=h3
   rw[hv]at h2
   exact(cell_spot h2).1
  obtain⟨b,off,spot⟩:=a
  have hspot:spot=none:=hspot
  subst hspot
  obtain⟨f,hf⟩:∃f:Nat→A,∀i,i<len→∃cs',W.cells? 0 ((⟨b,off,none⟩:Addr).add (i*z.length)) z.length=some cs'∧Q (f i)∧(e (f i)).length=z.length∧∀(j:Nat) (d:D),(e (f i))[j]?=some d→∃v,cs'[j]?=some v∧Rd (hp W) (fun b=>b<W.heap.size) d v:=by
   refine Classical.axiomOfChoice (r:=fun i g=>i<len→∃cs',W.cells? 0 ((⟨b,off,none⟩:Addr).add (i*z.length)) z.length=some cs'∧Q g∧(e g).length=z.length∧∀(j:Nat) (d:D),(e g)[j]?=some d→∃v,cs'[j]?=some v∧Rd (hp W) (fun b=>b<W.heap.size) d v) ?_
   intro i
   by_cases hi:i<len
   ·obtain⟨cs',g,g1⟩:=hE i hi
    exact⟨g,fun _=>⟨cs',g1⟩⟩
   ·exact⟨Classical.choice hne,fun hi'=>absurd hi' hi⟩
  have hcell:∀i j,i<len→j<z.length→∃arr T m v,W.heap[b]?=some (.cells arr T m)∧arr[off+i*z.length+j]?=some v∧∀d,(e (f i))[j]?=some d→Rd (hp W) (fun b=>b<W.heap.size) d v:=by
   intro i j hi hj
   obtain⟨cs',c1,_,_,c2⟩:=hf i hi
   have h2:=(cells_get c1).2 j hj
   obtain⟨v,hv⟩:∃v,cs'[j]?=some v:=⟨_,List.getElem?_eq_getElem (by rw[(cells_get c1).1];exact hj)⟩
   rw[hv,addr_addn,addr_addn]at h2
   obtain⟨_,arr,T,m,h3,h4⟩:=cell_spot h2
   refine⟨arr,T,m,v,h3,h4,fun d hd=>?_⟩
   obtain⟨v',h5,h6⟩:=c2 j d hd
   rw[hv]at h5
   obtain rfl:=Option.some.inj h5
   exact h6
  obtain⟨arr,T,m,_,hb,_,_⟩:=hcell 0 0 (by omega) hp0
  have hlt:b<W.heap.size:=(Array.getElem?_eq_some_iff.1 hb).1
  have hcell':∀i j,i<len→j<z.length→∃v,arr[off+i*z.length+j]?=some v∧∀d,(e (f i))[j]?=some d→Rd (hp W) (fun b=>b<W.heap.size) d v:=by
   intro i j hi hj
   obtain⟨arr',T',m',v,h1,h2,h3⟩:=hcell i j hi hj
   rw[hb]at h1
   simp only[Option.some.injEq,Obj.cells.injEq]at h1
   obtain⟨rfl,_,_⟩:=h1
   exact⟨v,h2,h3⟩
  have hget:∀(i:Nat) (r:List D),(((List.range len).map f).map e)[i]?=some r→i<len∧r=e (f i):=by
   intro i r hr
   simp only[List.getElem?_map,Option.map_eq_some_iff]at hr
   obtain⟨a',⟨a'',h1,rfl⟩,rfl⟩:=hr
   have hi:=(List.getElem?_eq_some_iff.1 h1).1
   simp only[List.length_range]at hi
   rw[List.getElem?_range hi]at h1
   obtain rfl:=Option.some.inj h1
   exact⟨hi,rfl⟩
  have hll:(((List.range len).map f).map e).length=len:=by simp
  have key:Rd (hp W) (fun b=>b<W.heap.size) (.sl z (((List.range len).map f).map e)) (.slice (some ⟨b,off,none⟩) (((List.range len).map f).map e).length cap):=by
   refine .sl z _ b off cap arr T m (fun i j=>(arr[off+i*z.length+j]?).getD (.bool false)) hlt hb (by omega) ?_ ?_ ?_
   ·intro i r hr
    obtain⟨h1,rfl⟩:=hget i r hr
    obtain⟨_,_,_,h2,_⟩:=hf i h1
    exact h2
   ·intro i j r d hr hd
    obtain⟨h1,rfl⟩:=hget i r hr
    obtain⟨_,_,_,h2,_⟩:=hf i h1
    obtain⟨v,h3,_⟩:=hcell' i j h1 (by have:=(List.getElem?_eq_some_iff.1 hd).1;omega)
    rw[h3];rfl
   ·intro i j r d hr hd
    obtain⟨h1,rfl⟩:=hget i r hr
    obtain⟨_,_,_,h2,_⟩:=hf i h1
    obtain⟨v,h3,h4⟩:=hcell' i j h1 (by have:=(List.getElem?_eq_some_iff.1 hd).1;omega)
    simp only[h3,Option.getD_some]
    exact h4 d hd
  rw[hll]at key
  refine⟨(List.range len).map f,⟨by simp;omega,?_⟩,rfl,opn_one key⟩
  intro a' ha
  obtain⟨i,hi,rfl⟩:=List.mem_map.1 ha
  obtain⟨_,_,h1,_⟩:=hf i (by simpa using hi)
  exact h1
end
section
variable {H:Type} {enc:TypeId×Value→H} {P:Program} {W:World} {t:TypeId} {A:Type} {e:A→List D} {Q:A→Prop}
theorem sd_oD {h:Heap} {fz:Nat→Prop} {d:D} {x:Value} (r:Rd h fz d x):CD h fz (.one (oD d)) x:=sc_of (H:=fun _=>none) (oD_stor d) (den_oD r)
theorem open_one {r:Reach} {base:Nat} {v:Value} {d:DataW H} {p:List MemPlace} {f:A→D} (hv:v.cells.toList=[v]) (h:DataW.Trod enc P W 0 (fun _=>true) true t v d p) (ho:Opn enc P W t (fun a=>[f a]) Q) :
  ∃a:A,Q a∧CD (hp W) (fun b=>b<W.heap.size) (.one (oD (f a))) v:=by
 obtain⟨fuel,hf⟩:=h
 obtain⟨a,a1,a2,a3⟩:=ho fuel _ _ hf
 obtain⟨v',v1,v2⟩:=a3 0 (f a) rfl
 rw[hv]at v1
 simp only[List.getElem?_cons_zero,Option.some.injEq]at v1
 subst v1
 exact⟨a,a1,sd_oD v2⟩
theorem okWide_sl {r:Reach} {base:Nat} {v:Value} {et:TypeId} (ht:P.underlying t=some (.slice et)) (hv:Value.okWide P W r base t v):v.cells.toList=[v]:=by
 obtain⟨a,l,c,rfl⟩:=okWide_slice ht hv
 rfl
end
end Go.Sy
namespace Go.Proofs.YtlaggppdgoknjaaGreatDoor
open Go Go.Sy Go.RowKit
theorem cBy_d' (l:List Int):cBy.d (.one (.d (.sl zBy (l.map byD))))=some l:=cBy_d l
theorem zBy_ln:zBy.length=1:=rfl
noncomputable def rBy:RowC Int:=rowOf zBy byD by_inj fun _=>rfl
theorem rBy_e:rBy.e=byD:=rfl
theorem rBy_z:rBy.z=zBy:=rfl
def plF (k:Int):Int:=if decide (k.tmod 4<0)=true then w64i (k.tmod 4+4) else k.tmod 4
theorem tmodk (k:Int) : -4<k.tmod 4∧k.tmod 4<4:=by
 refine⟨?_,Int.tmod_lt_of_pos k (by decide)⟩
 have:=Int.tmod_lt_of_pos (-k) (b:=4) (by decide)
 rw[Int.neg_tmod]at this
 omega
theorem plF_in (k:Int):0≤plF k∧plF k<4:=by
 have:=tmodk k
 unfold plF
 split
 ·rename_i h
  have h:=of_decide_eq_true h
  unfold w64i;rw[wrap_i64 (by omega) (by omega)];omega
 ·rename_i h
  simp only[decide_eq_true_eq]at h
  omega
abbrev yc_Place (k:Int) (n:Int):Prop:=n=4
abbrev yr_Place (k:Int) (n:Int):SV:=SV.one (.v (.int .i64 (plF k)))
set_option maxRecDepth 20000 in set_option maxHeartbeats 4000000 in
theorem y_Place:CallsY Tryz.prog 7 (acS (cInt .i64) (acS (cInt .i64) ac0)) (fun p:(Int×(Int×Unit))=>yc_Place p.1 p.2.1) (fun p:(Int×(Int×Unit))=>yr_Place p.1 p.2.1):=by
 rintro ⟨k,n,_u⟩ w fz xs hc hfz hl hx
 refine calls_toL Tryz.func7 rfl w fz [] [] (acS (cInt .i64) (acS (cInt .i64) ac0)) (fun p:(Int×(Int×Unit))=>yr_Place p.1 p.2.1) _ xs hfz hl hx (Nat.le_of_ble_eq_true rfl) ?_
 clear hx hl hfz xs
 simp only[Tryz.f7]
 have hc:n=4:=hc
 subst hc
 have h1:=tmodk k
 cases h2:decide (k.tmod 4<0) with
 |true=>
  have hr:plF k=w64i (k.tmod 4+4):=by unfold plF;rw[if_pos h2]
  simp only[↓eB,seval,go_sem,h2]
  try simp only[impB,impN]
  repeat' first|exact ck|with_reducible apply And.intro|intro _
  all_goals first|exact h1|(rename_i h;first|exact oI h|exact nah h)|(rename_i _ h _ g;exact sL h g)|decide|omega|(refine ret_with [] ?_;simp only[↓eB,seval,go_sem,bne,yr_Place,hr])
 |false=>
  have hr:plF k=k.tmod 4:=by unfold plF;rw[if_neg (by rw[h2];decide)]
  simp only[↓eB,seval,go_sem,h2]
  try simp only[impB,impN]
  repeat' first|exact ck|with_reducible apply And.intro|intro _
  all_goals first|exact h1|(rename_i h;first|exact oI h|exact nah h)|(rename_i _ h _ g;exact sL h g)|decide|omega|(refine ret_with [] ?_;simp only[↓eB,seval,go_sem,bne,yr_Place,hr])
theorem yn_Place:∀p:(Int×(Int×Unit)),((fun p:(Int×(Int×Unit))=>yr_Place p.1 p.2.1) p).names=[]:=by intro p;first|rfl|simp[SV.names,C.names]
noncomputable def yp_Place {X:Ctx} {w0:World}:Sy.Spec Tryz.prog X w0:=specD 7 Tryz.call7 (acS (cInt .i64) (acS (cInt .i64) ac0)) (fun p:(Int×(Int×Unit))=>yc_Place p.1 p.2.1) (fun p:(Int×(Int×Unit))=>yr_Place p.1 p.2.1) yn_Place y_Place
end Go.Proofs.YtlaggppdgoknjaaGreatDoor
