/- Arguments that come in, opened: plain data of any type as data that nobody writes. No conditions but those in each statement. -/
import Derived.Test.YtjnnmindcbgjhaaSyC
import Derived.Deep.Draws
import Derived.LaidMore
import Derived.ProofKit
import Derived.OpenShut
import Derived.Test.YtjnnmindcbgjhaaRows
import Derived.Test.YtjnnmindcbgjhaaRmn
import Derived.Lib.SmallJoins
import Derived.Carry
import Derived.Test.YtjnnmindcbgjhaaQs
set_option linter.unusedVariables false
set_option linter.unusedSimpArgs false
namespace Go.Sy
open Go Go.RowKit Go.ChangeShapes Go.WideShapes Go.ChangeAt
def OpnF {H:Type} (enc:TypeId×Value→H) (P:Program) (W:World) (t:TypeId) (fuel:Nat) {A:Type} (e:A→List D) (Q:A→Prop):Prop:=
 ∀(cs:List Value) (x:DataW H×List MemPlace),DataW.trod enc P W 0 (fun _=>true) true fuel t cs=some x→
  ∃a:A,Q a∧(e a).length=cs.length∧∀(j:Nat) (d:D),(e a)[j]?=some d→∃v,cs[j]?=some v∧Rd (hp W) (fun b=>b<W.heap.size) d v
abbrev Opn {H:Type} (enc:TypeId×Value→H) (P:Program) (W:World) (t:TypeId) {A:Type} (e:A→List D) (Q:A→Prop):Prop:=∀fuel,OpnF enc P W t fuel e Q
section
variable {H:Type} {enc:TypeId×Value→H} {P:Program} {W:World} {t:TypeId} {fuel:Nat} {A B:Type} {e:A→List D} {Q:A→Prop}
theorem opnF_zero:OpnF enc P W t 0 e Q:=by intro cs x h;simp[DataW.trod]at h
theorem opnF_map (f:A→B) (e':B→List D) (Q':B→Prop) (h:OpnF enc P W t fuel e Q) (he:∀a,e' (f a)=e a) (hq:∀a,Q a→Q' (f a)):OpnF enc P W t fuel e' Q':=by
 intro cs x hx
 obtain⟨a,h1,h2,h3⟩:=h cs x hx
 exact⟨f a,hq a h1,by rw[he];exact h2,by rw[he];exact h3⟩
theorem opn_one {d:D} {v:Value} (r:Rd (hp W) (fun b=>b<W.heap.size) d v):∀(j:Nat) (d':D),[d][j]?=some d'→∃v',[v][j]?=some v'∧Rd (hp W) (fun b=>b<W.heap.size) d' v':=by
 intro j d' h
 cases j with
 |zero=>simp only[List.getElem?_cons_zero,Option.some.injEq]at h;subst h;exact⟨v,rfl,r⟩
 |succ j=>simp at h
theorem opnF_int {k:IntKind} (ht:P.underlying t=some (.int k)):OpnF enc P W t fuel (fun n:Int=>[.v (.int k n)]) (fun n=>(Lit.int k n).wf=true):=by
 intro cs x h
 obtain⟨n,rfl,_,hw⟩:=DataW.trod_int ht h
 exact⟨n,hw,rfl,opn_one (.v _ rfl)⟩
theorem opnF_str (ht:P.underlying t=some .string):OpnF enc P W t fuel (fun l:List UInt8=>[.v (.string (bs l))]) (fun l=>l.length≤maxLen):=by
 intro cs x h
 obtain⟨s,rfl,_,hs⟩:=DataW.trod_string ht h
 refine⟨s.toList,by rw[size_toList]at hs;exact hs,rfl,?_⟩
 simp only[bs_of]
 exact opn_one (.v _ rfl)
theorem cells_get {a:Addr} {n:Nat} {cs:List Value} (h:W.cells? 0 a n=some cs):cs.length=n∧∀j,j<n→W.cell? (a.add j)=cs[j]?:=by
 unfold World.cells? at h
 rw[if_pos (Nat.zero_le _)]at h
 exact⟨by simpa using mapM_some_length h,fun j hj=>mapM_some_get h j j (by simp[hj])⟩
theorem cell_spot {a:Addr} {v:Value} (h:W.cell? a=some v):a.spot=none∧∃arr T m,W.heap[a.block]?=some (.cells arr T m)∧arr[a.off]?=some v:=by
 unfold World.cell? at h
 split at h
 ·rename_i c e m hh
  split at h
  ·cases h
  ·rename_i hs
   exact⟨by simpa using hs,c,e,m,hh,h⟩
 ·cases h
theorem addr_add0 (a:Addr):a.add 0=a:=rfl
theorem addr_addn (b off k:Nat):(⟨b,off,none⟩:Addr).add k=⟨b,off+k,none⟩:=by
 unfold Addr.add
 split
 ·rename_i h0
  have h0:k=0:=by simpa using h0
  subst h0;rfl
 ·rfl
theorem opnF_slice {et:TypeId} (ht:P.underlying t=some (.slice et)) (z:List D) (hz:P.cellsOf et=z.length) (hp0:0<z.length) (h:OpnF enc P W et fuel e Q) :
  OpnF enc P W t (fuel+1) (fun l:List A=>[.sl z (l.map e)]) (fun l=>l.length≤maxLen∧∀a∈l,Q a):=by
 classical
 intro cs x hx
 rcases DataW.trod_slice ht hx with⟨rfl,_⟩|⟨a,len,cap,elems,rest,n,hn,rfl,_,_,hlc,hcm,hlen,hel,_,_⟩
 ·exact⟨[],⟨by simp,by simp⟩,rfl,opn_one (.nil _ _ _ fun _=>rfl)⟩
 ·obtain rfl:fuel=n:=by omega
  by_cases h0:len=0
  ·subst h0
   exact⟨[],⟨by simp,by simp⟩,rfl,opn_one (.nil _ _ _ fun h=>by cases h)⟩
  rw[hz]at hel
  have hE:∀i,i<len→∃cs' b,W.cells? 0 (a.add (i*z.length)) z.length=some cs'∧Q b∧(e b).length=z.length∧∀(j:Nat) (d:D),(e b)[j]?=some d→∃v,cs'[j]?=some v∧Rd (hp W) (fun b=>b<W.heap.size) d v:=by
   intro i hi
   have h1:=hel i hi
   rw[List.getElem?_eq_getElem (by omega)]at h1
   obtain⟨cs',c1,c2⟩:=Option.bind_eq_some_iff.1 h1
   obtain⟨b,b1,b2,b3⟩:=h cs' _ c2
   exact⟨cs',b,c1,b1,by rw[b2,(cells_get c1).1],b3⟩
  have hne:Nonempty A:=by obtain⟨_,b,_⟩:=hE 0 (by omega);exact⟨b⟩
  have hspot:a.spot=none:=by
   obtain⟨cs',_,c1,_⟩:=hE 0 (by omega)
   have h2:=(cells_get c1).2 0 hp0
   rw[Nat.zero_mul,addr_add0,addr_add0]at h2
   have h3:∃v,cs'[0]?=some v:=⟨_,List.getElem?_eq_getElem (by rw[(cells_get c1).1];exact hp0)⟩
   obtain⟨v,hv⟩:=h3
   rw[hv]at h2
   exact(cell_spot h2).1
  obtain⟨b,off,spot⟩:=a
  have hspot:spot=none:=hspot
  subst hspot
  obtain⟨f,hf⟩:∃f:Nat→A,∀i,i<len→∃cs',W.cells? 0 ((⟨b,off,none⟩:Addr).add (i*z.length)) z.length=some cs'∧Q (f i)∧(e (f i)).length=z.length∧∀(j:Nat) (d:D),(e (f i))[j]?=some d→∃v,cs'[j]?=some v∧Rd (hp W) (fun b=>b<W.heap.size) d v:=by
   refine Classical.axiomOfChoice (r:=fun i g=>i<len→∃cs',W.cells? 0 ((⟨b,off,none⟩:Addr).add (i*z.length)) z.length=some cs'∧Q g∧(e g).length=z.length∧∀(j:Nat) (d:D),(e g)[j]?=some d→∃v,cs'[j]?=some v∧Rd (hp W) (fun b=>b<W.heap.size) d v) ?_
   intro i
   by_cases hi:i<len
   ·obtain⟨cs',g,g1⟩:=hE i hi
    exact⟨g,fun _=>⟨cs',g1⟩⟩
   ·exact⟨Classical.choice hne,fun hi'=>absurd hi' hi⟩
  have hcell:∀i j,i<len→j<z.length→∃arr T m v,W.heap[b]?=some (.cells arr T m)∧arr[off+i*z.length+j]?=some v∧∀d,(e (f i))[j]?=some d→Rd (hp W) (fun b=>b<W.heap.size) d v:=by
   intro i j hi hj
   obtain⟨cs',c1,_,_,c2⟩:=hf i hi
   have h2:=(cells_get c1).2 j hj
   obtain⟨v,hv⟩:∃v,cs'[j]?=some v:=⟨_,List.getElem?_eq_getElem (by rw[(cells_get c1).1];exact hj)⟩
   rw[hv,addr_addn,addr_addn]at h2
   obtain⟨_,arr,T,m,h3,h4⟩:=cell_spot h2
   refine⟨arr,T,m,v,h3,h4,fun d hd=>?_⟩
   obtain⟨v',h5,h6⟩:=c2 j d hd
   rw[hv]at h5
   obtain rfl:=Option.some.inj h5
   exact h6
  obtain⟨arr,T,m,_,hb,_,_⟩:=hcell 0 0 (by omega) hp0
  have hlt:b<W.heap.size:=(Array.getElem?_eq_some_iff.1 hb).1
  have hcell':∀i j,i<len→j<z.length→∃v,arr[off+i*z.length+j]?=some v∧∀d,(e (f i))[j]?=some d→Rd (hp W) (fun b=>b<W.heap.size) d v:=by
   intro i j hi hj
   obtain⟨arr',T',m',v,h1,h2,h3⟩:=hcell i j hi hj
   rw[hb]at h1
   simp only[Option.some.injEq,Obj.cells.injEq]at h1
   obtain⟨rfl,_,_⟩:=h1
   exact⟨v,h2,h3⟩
  have hget:∀(i:Nat) (r:List D),(((List.range len).map f).map e)[i]?=some r→i<len∧r=e (f i):=by
   intro i r hr
   simp only[List.getElem?_map,Option.map_eq_some_iff]at hr
   obtain⟨a',⟨a'',h1,rfl⟩,rfl⟩:=hr
   have hi:=(List.getElem?_eq_some_iff.1 h1).1
   simp only[List.length_range]at hi
   rw[List.getElem?_range hi]at h1
   obtain rfl:=Option.some.inj h1
   exact⟨hi,rfl⟩
  have hll:(((List.range len).map f).map e).length=len:=by simp
  have key:Rd (hp W) (fun b=>b<W.heap.size) (.sl z (((List.range len).map f).map e)) (.slice (some ⟨b,off,none⟩) (((List.range len).map f).map e).length cap):=by
   refine .sl z _ b off cap arr T m (fun i j=>(arr[off+i*z.length+j]?).getD (.bool false)) hlt hb (by omega) ?_ ?_ ?_
   ·intro i r hr
    obtain⟨h1,rfl⟩:=hget i r hr
    obtain⟨_,_,_,h2,_⟩:=hf i h1
    exact h2
   ·intro i j r d hr hd
    obtain⟨h1,rfl⟩:=hget i r hr
    obtain⟨_,_,_,h2,_⟩:=hf i h1
    obtain⟨v,h3,_⟩:=hcell' i j h1 (by have:=(List.getElem?_eq_some_iff.1 hd).1;omega)
    rw[h3];rfl
   ·intro i j r d hr hd
    obtain⟨h1,rfl⟩:=hget i r hr
    obtain⟨_,_,_,h2,_⟩:=hf i h1
    obtain⟨v,h3,h4⟩:=hcell' i j h1 (by have:=(List.getElem?_eq_some_iff.1 hd).1;omega)
    simp only[h3,Option.getD_some]
    exact h4 d hd
  rw[hll]at key
  refine⟨(List.range len).map f,⟨by simp;omega,?_⟩,rfl,opn_one key⟩
  intro a' ha
  obtain⟨i,hi,rfl⟩:=List.mem_map.1 ha
  obtain⟨_,_,h1,_⟩:=hf i (by simpa using hi)
  exact h1
def OpnL {H:Type} (enc:TypeId×Value→H) (P:Program) (W:World) (fs:List Field) (fuel o n:Nat) {A:Type} (e:A→List D) (Q:A→Prop):Prop:=
 ∀(cs:List Value) (xs:List (DataW H×List MemPlace)),(∀(i:Nat) (f:Field),fs[i]?=some f→DataW.trod enc P W 0 (fun _=>true) true fuel f.type ((cs.drop f.offset).take (P.cellsOf f.type))=xs[i]?)→xs.length=fs.length→cs.length=o+n→
  ∃a:A,Q a∧(e a).length=n∧∀(j:Nat) (d:D),(e a)[j]?=some d→∃v,cs[o+j]?=some v∧Rd (hp W) (fun b=>b<W.heap.size) d v
theorem opnL_nil (o:Nat):OpnL enc P W [] fuel o 0 (fun _:Unit=>[]) (fun _=>True):=by
 intro cs xs _ _ _
 exact⟨(),trivial,rfl,by simp⟩
theorem opnL_cons {f:Field} {fs:List Field} {o m n:Nat} {e2:B→List D} {Q2:B→Prop} (hf:f.offset=o) (hm:P.cellsOf f.type=m) (h1:OpnF enc P W f.type fuel e Q) (h2:OpnL enc P W fs fuel (o+m) n e2 Q2) :
  OpnL enc P W (f::fs) fuel o (m+n) (fun p:A×B=>e p.1++e2 p.2) (fun p=>Q p.1∧Q2 p.2):=by
 intro cs xs hx hl hcl
 have g0:=hx 0 f rfl
 rw[List.getElem?_eq_getElem (by simp[hl]),hf,hm]at g0
 obtain⟨a,a1,a2,a3⟩:=h1 _ _ g0
 obtain⟨b,b1,b2,b3⟩:=h2 cs (xs.drop 1) (fun i g hg=>by
  have:=hx (i+1) g (by simpa using hg)
  rw[this,List.getElem?_drop,Nat.add_comm]) (by simp[hl]) (by omega)
 have hal:(e a).length=m:=by rw[a2,List.length_take,List.length_drop,hcl];omega
 refine⟨(a,b),⟨a1,b1⟩,by simp[hal,b2],fun j d hd=>?_⟩
 simp only at hd
 by_cases hj:j<m
 ·rw[List.getElem?_append_left (by omega)]at hd
  obtain⟨v,v1,v2⟩:=a3 j d hd
  rw[List.getElem?_take,if_pos hj,List.getElem?_drop]at v1
  exact⟨v,v1,v2⟩
 ·rw[List.getElem?_append_right (by omega),hal]at hd
  obtain⟨v,v1,v2⟩:=b3 _ d hd
  exact⟨v,by rw[← v1];congr 1;omega,v2⟩
theorem opnF_struct {fs:Array Field} {n:Nat} (ht:P.underlying t=some (.struct fs)) (hn:P.cellsOf t=n) (h:OpnL enc P W fs.toList fuel 0 n e Q):OpnF enc P W t (fuel+1) e Q:=by
 intro cs x hx
 obtain⟨xs,m,hm,_,hl,hxl,hf⟩:=DataW.trod_struct ht hx
 obtain rfl:fuel=m:=by omega
 obtain⟨a,a1,a2,a3⟩:=h cs xs (fun i f hi=>hf i f (by simpa using hi)) (by simpa using hxl) (by omega)
 exact⟨a,a1,by omega,fun j d hd=>by simpa using a3 j d hd⟩
end
section
variable {H:Type} {enc:TypeId×Value→H} {P:Program} {W:World} {t:TypeId} {A:Type} {e:A→List D} {Q:A→Prop}
theorem sd_oD {h:Heap} {fz:Nat→Prop} {d:D} {x:Value} (r:Rd h fz d x):CD h fz (.one (oD d)) x:=sc_of (H:=fun _=>none) (oD_stor d) (den_oD r)
theorem open_one {r:Reach} {base:Nat} {v:Value} {d:DataW H} {p:List MemPlace} {f:A→D} (hv:v.cells.toList=[v]) (h:DataW.Trod enc P W 0 (fun _=>true) true t v d p) (ho:Opn enc P W t (fun a=>[f a]) Q) :
  ∃a:A,Q a∧CD (hp W) (fun b=>b<W.heap.size) (.one (oD (f a))) v:=by
 obtain⟨fuel,hf⟩:=h
 obtain⟨a,a1,a2,a3⟩:=ho fuel _ _ hf
 obtain⟨v',v1,v2⟩:=a3 0 (f a) rfl
 rw[hv]at v1
 simp only[List.getElem?_cons_zero,Option.some.injEq]at v1
 subst v1
 exact⟨a,a1,sd_oD v2⟩
theorem open_agg {v:Value} {d:DataW H} {p:List MemPlace} (hv:∃cs,v= .agg cs) (h:DataW.Trod enc P W 0 (fun _=>true) true t v d p) (ho:Opn enc P W t e Q) :
  ∃a:A,Q a∧CD (hp W) (fun b=>b<W.heap.size) (.agg ((e a).map oD)) v:=by
 obtain⟨fuel,hf⟩:=h
 obtain⟨cs,rfl⟩:=hv
 obtain⟨a,a1,a2,a3⟩:=ho fuel _ _ hf
 refine⟨a,a1,cs,rfl,by simpa [Value.cells] using a2.symm,fun j c hc=>?_⟩
 simp only[List.getElem?_map,Option.map_eq_some_iff]at hc
 obtain⟨d,hd,rfl⟩:=hc
 obtain⟨v,v1,v2⟩:=a3 j d hd
 exact⟨v,by simpa [Value.cells] using v1,sd_oD v2⟩
theorem okWide_agg {r:Reach} {base:Nat} {v:Value} {fs:Array Field} (ht:P.underlying t=some (.struct fs)) (hv:Value.okWide P W r base t v):∃cs,v= .agg cs:=by
 unfold Value.okWide at hv
 rw[ht]at hv
 obtain⟨cs,h,_⟩:=hv
 exact⟨cs,h⟩
theorem okWide_sl {r:Reach} {base:Nat} {v:Value} {et:TypeId} (ht:P.underlying t=some (.slice et)) (hv:Value.okWide P W r base t v):v.cells.toList=[v]:=by
 obtain⟨a,l,c,rfl⟩:=okWide_slice ht hv
 rfl
end
end Go.Sy
namespace Go.Proofs.Ytjnnmindcbgjhaa
open Go Go.Sy Go.RowKit Go.ChangeShapes Go.WideShapes Go.ChangeAt
theorem ownK:ownKnob Try.prog.godebug=none:=by kernel_rfl
theorem laidK:laidOutB Try.prog=true:=by kernel_rfl
theorem trodAll_below {H:Type} {enc:TypeId×Value→H} {P:Program} (hl:laidOutB P=true) {W W':World} (hb:Below W.heap.size W W'):∀(ts:List TypeId) (vs:List Value) (ds:List (DataW H)) (ps:List MemPlace),
  (∀t∈ts,P.readableRec t=true∧t<P.types.size)→DataW.TrodAll enc P W 0 (fun _=>true) true ts vs ds ps→(∀x∈ps,x.block<W.heap.size)→DataW.TrodAll enc P W' 0 (fun b=>decide (b<W.heap.size)) true ts vs ds ps
 |[],vs,ds,ps,_,h,_=>by
  obtain⟨rfl,rfl,rfl⟩:=trodAll_nil h
  exact trodAll_mk0
 |t::ts,vs,ds,ps,hts,h,hlt=>by
  obtain⟨v,vs',d,ds',p,q,rfl,rfl,rfl,h1,h2⟩:=trodAll_cons h
  have ht:=hts t (List.mem_cons_self ..)
  exact trodAll_cons_mk (Below.trod hl ht.1 ht.2 h1 hb fun x hx=>hlt x (List.mem_append_left _ hx))
   (trodAll_below hl hb ts vs' ds' q (fun t' ht'=>hts t' (List.mem_cons_of_mem _ ht')) h2 fun x hx=>hlt x (List.mem_append_right _ hx))
theorem law_post {H:Type} {enc:TypeId×Value→H} {f:Func} {s:ChangeSpec} {W W':World} {args:Array Value} {ds gs:List (DataW H)} {before:List MemPlace} (hW:DataW.Whole enc Try.prog f.params.toList s.vars false W args.toList ds gs before)
  (hv:s.vars=[]) (hr:f.resultTypes = #[4]) (hts:∀t∈f.params.toList,Try.prog.readableRec t=true∧t<Try.prog.types.size)
  (hf:gs=[]→(s.fn H (ds++gs)).results=[.lit (.bool true)]∧(s.fn H (ds++gs)).args=ds∧(s.fn H (ds++gs)).vars=[]) (hb:Below W.heap.size W W') :
  s.post enc Try.prog f false true false false W args (.bool true) W':=by
 have hlt:=hW.lt
 have hW0:=hW
 obtain⟨p,q,hA,hV,rfl,_,_⟩:=hW
 rw[hv]at hV
 obtain⟨rfl,rfl⟩:=trodVars_none hV
 obtain⟨f1,f2,f3⟩:=hf rfl
 refine⟨ds,[],p++[],[],p,[],hW0,?_,?_,?_,hb.frame _,fun h=>by cases h⟩
 ·rw[f1,hr]
  exact trodAll_cons_mk (shut_bool Try.underlying4 true) trodAll_mk0
 ·rw[f2]
  exact trodAll_below laidK hb _ _ _ _ hts hA fun x hx=>by simpa using hlt x (List.mem_append_left _ hx)
 ·rw[f3,hv];rfl
theorem to_plainR {P:Program} {f:FuncId} {A:Type} {ac:ArgH A} {Cd:A→Prop} {F:A→SV} (h:CallsR P f ac Cd F) (a:A) (w:World) (hc:Cd a) (vals:List Value) (val:Value) (hl:vals.length=(ac.e a).length)
  (h1:∀(j:Nat) (v:SV) (x:Value),(ac.e a)[j]?=some v→vals[j]?=some x→CD (hp w) (fun b=>b<w.heap.size) v x)
  (h2:clos (F a)=some val):Calls P f vals.toArray w (fun e w'=>e= .returned val∧Below w.heap.size w w'):=by
 refine(h a w (fun b=>b<w.heap.size) vals hc (fun _ h=>h) hl h1).mono ?_
 rintro e w' ⟨v,x,fz',rfl,rfl,g1,g2,g3,g4,g5,g6⟩
 rw[sd_clos g5 h2]
 exact⟨rfl,g6⟩
section
variable {H:Type} {enc:TypeId×Value→H} {W:World} {base:Nat} {v:Value} {d:DataW H} {p:List MemPlace}
theorem wf_i64' {n:Int} (h:(Lit.int .i64 n).wf=true):i64R n:=by
 have:=bounds_i64 h;unfold i64R;omega
end
end Go.Proofs.Ytjnnmindcbgjhaa
namespace Go.Proofs.Ytjnnmindcbgjhaa
open Go Go.Sy Go.RowKit Go.ChangeShapes Go.WideShapes Go.ChangeAt
section
variable {H:Type} {enc:TypeId×Value→H} {W:World}
theorem opn_i64s (fuel:Nat):OpnF enc Try.prog W 23 fuel (fun l:List Int=>[.sl zIw (l.map iD)]) (fun l=>l.length≤maxLen∧∀x∈l,i64R x):=by
 cases fuel with
 |zero=>exact opnF_zero
 |succ n=>exact opnF_map id _ _ (opnF_slice Try.underlying23 zIw (by kernel_rfl) (by decide) (opnF_int Try.underlying2)) (fun _=>rfl) (fun _ h=>⟨h.1,fun x hx=>wf_i64' (h.2 x hx)⟩)
theorem opn_nb (fuel:Nat):OpnF enc Try.prog W 52 fuel Nb.r (fun _=>True):=by
 cases fuel with
 |zero=>exact opnF_zero
 |succ n=>
  exact opnF_map (fun p:List UInt8×Int×Unit=>(⟨p.1,p.2.1⟩:Nb)) _ _ (opnF_struct Try.underlying52 (n:=2) (by kernel_rfl)
   (opnL_cons (m:=1) (n:=1) rfl (by kernel_rfl) (opnF_str Try.underlying9) (opnL_cons (m:=1) (n:=0) rfl (by kernel_rfl) (opnF_int Try.underlying2) (opnL_nil _)))) (fun _=>rfl) (fun p hp=>trivial)
theorem opn_na (fuel:Nat):OpnF enc Try.prog W 68 fuel Na.r (fun x=>x.l.length≤maxLen):=by
 cases fuel with
 |zero=>exact opnF_zero
 |succ n=>
  exact opnF_map (fun p:List UInt8×List Int×Unit=>(⟨p.1,p.2.1⟩:Na)) _ _ (opnF_struct Try.underlying68 (n:=2) (by kernel_rfl)
   (opnL_cons (m:=1) (n:=1) rfl (by kernel_rfl) (opnF_str Try.underlying9) (opnL_cons (m:=1) (n:=0) rfl (by kernel_rfl) (opn_i64s n) (opnL_nil _)))) (fun _=>rfl) (fun p hp=>hp.2.1.1)
theorem opn_nbs (fuel:Nat):OpnF enc Try.prog W 41 fuel (fun l:List Nb=>[.sl zNbD (l.map Nb.r)]) (fun l=>l.length≤maxLen):=by
 cases fuel with
 |zero=>exact opnF_zero
 |succ n=>exact opnF_map id _ _ (opnF_slice Try.underlying41 zNbD (by kernel_rfl) (by decide) (opn_nb n)) (fun _=>rfl) (fun _ h=>h.1)
theorem opn_nas (fuel:Nat):OpnF enc Try.prog W 42 fuel (fun l:List Na=>[.sl zNaD (l.map Na.r)]) (fun l=>l.length≤maxLen∧∀x∈l,x.l.length≤maxLen):=by
 cases fuel with
 |zero=>exact opnF_zero
 |succ n=>exact opnF_slice Try.underlying42 zNaD (by kernel_rfl) (by decide) (opn_na n)
def staD (s:Sta):List D:=[.sl zNbD (s.cs.map Nb.r),.sl zNaD (s.ar.map Na.r)]
theorem opn_sta (fuel:Nat):OpnF enc Try.prog W 44 fuel staD (fun s=>s.cs.length≤maxLen∧s.ar.length≤maxLen∧∀x∈s.ar,x.l.length≤maxLen):=by
 cases fuel with
 |zero=>exact opnF_zero
 |succ n=>
  exact opnF_map (fun p:List Nb×List Na×Unit=>(⟨p.1,p.2.1⟩:Sta)) _ _ (opnF_struct Try.underlying44 (n:=2) (by kernel_rfl)
   (opnL_cons (m:=1) (n:=1) rfl (by kernel_rfl) (opn_nbs n) (opnL_cons (m:=1) (n:=0) rfl (by kernel_rfl) (opn_nas n) (opnL_nil _)))) (fun _=>rfl) (fun p hp=>⟨hp.1,hp.2.1.1,hp.2.1.2⟩)
variable {base:Nat} {v:Value} {d:DataW H} {p:List MemPlace}
set_option maxRecDepth 100000 in
theorem open_i64s (hv:Value.okWide Try.prog W .any base 23 v) (h:DataW.Trod enc Try.prog W 0 (fun _=>true) true 23 v d p) :
  ∃l:List Int,(l.length≤maxLen∧∀x∈l,i64R x)∧CD (hp W) (fun b=>b<W.heap.size) (.one (.d (.sl zIw (l.map iD)))) v:=open_one (f:=fun l:List Int=>D.sl zIw (l.map iD)) (r:=.any) (base:=base) (okWide_sl Try.underlying23 hv) h opn_i64s
set_option maxRecDepth 100000 in
theorem open_sta (hv:Value.okWide Try.prog W .any base 44 v) (h:DataW.Trod enc Try.prog W 0 (fun _=>true) true 44 v d p) :
  ∃s:Sta,(s.cs.length≤maxLen∧s.ar.length≤maxLen∧∀x∈s.ar,x.l.length≤maxLen)∧CD (hp W) (fun b=>b<W.heap.size) (.agg (stR s)) v:=
 open_agg (okWide_agg Try.underlying44 hv) h opn_sta
end
end Go.Proofs.Ytjnnmindcbgjhaa
