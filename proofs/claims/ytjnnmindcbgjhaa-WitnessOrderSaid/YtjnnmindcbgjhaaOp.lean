/- Arguments that come in, opened: plain data of any type as data that nobody writes. No conditions but those in each statement. -/
import Derived.Test.YtjnnmindcbgjhaaSyC
import Derived.Deep.Draws
import Derived.LaidMore
import Derived.ProofKit
import Derived.OpenShut
set_option linter.unusedVariables false
set_option linter.unusedSimpArgs false
namespace Go.Sy
open Go Go.RowKit Go.ChangeShapes Go.WideShapes Go.ChangeAt
def Pj {H:Type} (enc:TypeId×Value→H) (P:Program) (W:World) (t:TypeId) (fuel:Nat) {A:Type} (e:A→List D) (Q:A→Prop):Prop:=
 ∀(cs:List Value) (x:DataW H×List MemPlace),DataW.trod enc P W 0 (fun _=>true) true fuel t cs=some x→
  ∃a:A,Q a∧(e a).length=cs.length∧∀(j:Nat) (d:D),(e a)[j]?=some d→∃v,cs[j]?=some v∧Rd (hp W) (fun b=>b<W.heap.size) d v
abbrev Opn {H:Type} (enc:TypeId×Value→H) (P:Program) (W:World) (t:TypeId) {A:Type} (e:A→List D) (Q:A→Prop):Prop:=∀fuel,Pj enc P W t fuel e Q
section
variable {H:Type} {enc:TypeId×Value→H} {P:Program} {W:World} {t:TypeId} {fuel:Nat} {A B:Type} {e:A→List D} {Q:A→Prop}
theorem au:Pj enc P W t 0 e Q:=by intro cs x h;simp[DataW.trod]at h
theorem dz (f:A→B) (e':B→List D) (Q':B→Prop) (h:Pj enc P W t fuel e Q) (he:∀a,e' (f a)=e a) (hq:∀a,Q a→Q' (f a)):Pj enc P W t fuel e' Q':=by
 intro cs x hx
 obtain⟨a,h1,h2,h3⟩:=h cs x hx
 exact⟨f a,hq a h1,by rw[he];exact h2,by rw[he];exact h3⟩
theorem QR {d:D} {v:Value} (r:Rd (hp W) (fun b=>b<W.heap.size) d v):∀(j:Nat) (d':D),[d][j]?=some d'→∃v',[v][j]?=some v'∧Rd (hp W) (fun b=>b<W.heap.size) d' v':=by
 intro j d' h
 cases j with
 |zero=>simp only[List.getElem?_cons_zero,jS]at h;subst h;exact⟨v,rfl,r⟩
 |succ j=>simp at h
theorem eA {k:IntKind} (ht:P.underlying t=some (.int k)):Pj enc P W t fuel (fun n:Int=>[.v (.int k n)]) (fun n=>(Lit.int k n).wf=true):=by
 intro cs x h
 obtain⟨n,rfl,_,hw⟩:=DataW.trod_int ht h
 exact⟨n,hw,rfl,QR (.v _ rfl)⟩
theorem LH {a:Addr} {n:Nat} {cs:List Value} (h:W.cells? 0 a n=some cs):cs.length=n∧∀j,j<n→W.cell? (a.add j)=cs[j]?:=by
 unfold World.cells? at h
 rw[if_pos (Nat.zero_le _)]at h
 exact⟨by simpa using mapM_some_length h,fun j hj=>mapM_some_get h j j (by simp[hj])⟩
theorem cell_spot {a:Addr} {v:Value} (h:W.cell? a=some v):a.spot=none∧∃arr T m,W.heap[a.block]?=some (.cells arr T m)∧arr[a.off]?=some v:=by
 unfold World.cell? at h
 split at h
 ·rename_i c e m hh
  split at h
  ·cases h
  ·rename_i hs
   exact⟨by simpa using hs,c,e,m,hh,h⟩
 ·cases h
theorem UP (a:Addr):a.add 0=a:=rfl
theorem UQ (b off k:Nat):(⟨b,off,none⟩:Addr).add k=⟨b,off+k,none⟩:=by
 unfold Addr.add
 split
 ·rename_i h0
  have h0:k=0:=by simpa using h0
  subst h0;rfl
 ·rfl
theorem Yz {et:TypeId} (ht:P.underlying t=some (.slice et)) (z:List D) (hz:P.cellsOf et=z.length) (hp0:0<z.length) (h:Pj enc P W et fuel e Q) :
  Pj enc P W t (fuel+1) (fun l:List A=>[.sl z (l.map e)]) (fun l=>l.length≤maxLen∧∀a∈l,Q a):=by
 classical
 intro cs x hx
 rcases DataW.trod_slice ht hx with⟨rfl,_⟩|⟨a,len,cap,elems,rest,n,hn,rfl,_,_,hlc,hcm,hlen,hel,_,_⟩
 ·exact⟨[],⟨by simp,by simp⟩,rfl,QR (.nil _ _ _ fun _=>rfl)⟩
 ·obtain rfl:fuel=n:=by omega
  by_cases h0:len=0
  ·subst h0
   exact⟨[],⟨by simp,by simp⟩,rfl,QR (.nil _ _ _ fun h=>by cases h)⟩
  rw[hz]at hel
  have hE:∀i,i<len→∃cs' b,W.cells? 0 (a.add (i*z.length)) z.length=some cs'∧Q b∧(e b).length=z.length∧∀(j:Nat) (d:D),(e b)[j]?=some d→∃v,cs'[j]?=some v∧Rd (hp W) (fun b=>b<W.heap.size) d v:=by
   intro i hi
   have h1:=hel i hi
   rw[List.getElem?_eq_getElem (by omega)]at h1
   obtain⟨cs',c1,c2⟩:=Option.bind_eq_some_iff.1 h1
   obtain⟨b,b1,b2,b3⟩:=h cs' _ c2
   exact⟨cs',b,c1,b1,by rw[b2,(LH c1).1],b3⟩
  have hne:Nonempty A:=by obtain⟨_,b,_⟩:=hE 0 (by omega);exact⟨b⟩
  have hspot:a.spot=none:=by
   obtain⟨cs',_,c1,_⟩:=hE 0 (by omega)
   have h2:=(LH c1).2 0 hp0
   rw[Nat.zero_mul,UP,UP]at h2
   have h3:∃v,cs'[0]?=some v:=⟨_,List.getElem?_eq_getElem (by rw[(LH c1).1];exact hp0)⟩
   obtain⟨v,hv⟩:=h3
   rw[hv]at h2
   exact(cell_spot h2).1
  obtain⟨b,off,spot⟩:=a
  have hspot:spot=none:=hspot
  subst hspot
  obtain⟨f,hf⟩:∃f:Nat→A,∀i,i<len→∃cs',W.cells? 0 ((⟨b,off,none⟩:Addr).add (i*z.length)) z.length=some cs'∧Q (f i)∧(e (f i)).length=z.length∧∀(j:Nat) (d:D),(e (f i))[j]?=some d→∃v,cs'[j]?=some v∧Rd (hp W) (fun b=>b<W.heap.size) d v:=by
   refine Classical.axiomOfChoice (r:=fun i g=>i<len→∃cs',W.cells? 0 ((⟨b,off,none⟩:Addr).add (i*z.length)) z.length=some cs'∧Q g∧(e g).length=z.length∧∀(j:Nat) (d:D),(e g)[j]?=some d→∃v,cs'[j]?=some v∧Rd (hp W) (fun b=>b<W.heap.size) d v) ?_
   intro i
   by_cases hi:i<len
   ·obtain⟨cs',g,g1⟩:=hE i hi
    exact⟨g,fun _=>⟨cs',g1⟩⟩
   ·exact⟨Classical.choice hne,fun hi'=>absurd hi' hi⟩
  have hcell:∀i j,i<len→j<z.length→∃arr T m v,W.heap[b]?=some (.cells arr T m)∧arr[off+i*z.length+j]?=some v∧∀d,(e (f i))[j]?=some d→Rd (hp W) (fun b=>b<W.heap.size) d v:=by
   intro i j hi hj
   obtain⟨cs',c1,_,_,c2⟩:=hf i hi
   have h2:=(LH c1).2 j hj
   obtain⟨v,hv⟩:∃v,cs'[j]?=some v:=⟨_,List.getElem?_eq_getElem (by rw[(LH c1).1];exact hj)⟩
   rw[hv,UQ,UQ]at h2
   obtain⟨_,arr,T,m,h3,h4⟩:=cell_spot h2
   refine⟨arr,T,m,v,h3,h4,fun d hd=>?_⟩
   obtain⟨v',h5,h6⟩:=c2 j d hd
   rw[hv]at h5
   obtain rfl:=Option.some.inj h5
   exact h6
  obtain⟨arr,T,m,_,hb,_,_⟩:=hcell 0 0 (by omega) hp0
  have hlt:b<W.heap.size:=(Array.getElem?_eq_some_iff.1 hb).1
  have hcell':∀i j,i<len→j<z.length→∃v,arr[off+i*z.length+j]?=some v∧∀d,(e (f i))[j]?=some d→Rd (hp W) (fun b=>b<W.heap.size) d v:=by
   intro i j hi hj
   obtain⟨arr',T',m',v,h1,h2,h3⟩:=hcell i j hi hj
   rw[hb]at h1
   simp only[jS,Obj.cells.injEq]at h1
   obtain⟨rfl,_,_⟩:=h1
   exact⟨v,h2,h3⟩
  have hget:∀(i:Nat) (r:List D),(((List.range len).map f).map e)[i]?=some r→i<len∧r=e (f i):=by
   intro i r hr
   simp only[List.getElem?_map,Option.map_eq_some_iff]at hr
   obtain⟨a',⟨a'',h1,rfl⟩,rfl⟩:=hr
   have hi:=(List.getElem?_eq_some_iff.1 h1).1
   simp only[List.length_range]at hi
   rw[List.getElem?_range hi]at h1
   obtain rfl:=Option.some.inj h1
   exact⟨hi,rfl⟩
  have hll:(((List.range len).map f).map e).length=len:=by simp
  have key:Rd (hp W) (fun b=>b<W.heap.size) (.sl z (((List.range len).map f).map e)) (.slice (some ⟨b,off,none⟩) (((List.range len).map f).map e).length cap):=by
   refine .sl z _ b off cap arr T m (fun i j=>(arr[off+i*z.length+j]?).getD (.bool false)) hlt hb (by omega) ?_ ?_ ?_
   ·intro i r hr
    obtain⟨h1,rfl⟩:=hget i r hr
    obtain⟨_,_,_,h2,_⟩:=hf i h1
    exact h2
   ·intro i j r d hr hd
    obtain⟨h1,rfl⟩:=hget i r hr
    obtain⟨_,_,_,h2,_⟩:=hf i h1
    obtain⟨v,h3,_⟩:=hcell' i j h1 (by have:=(List.getElem?_eq_some_iff.1 hd).1;omega)
    rw[h3];rfl
   ·intro i j r d hr hd
    obtain⟨h1,rfl⟩:=hget i r hr
    obtain⟨_,_,_,h2,_⟩:=hf i h1
    obtain⟨v,h3,h4⟩:=hcell' i j h1 (by have:=(List.getElem?_eq_some_iff.1 hd).1;omega)
    simp only[h3,Option.getD_some]
    exact h4 d hd
  rw[hll]at key
  refine⟨(List.range len).map f,⟨by simp;omega,?_⟩,rfl,QR key⟩
  intro a' ha
  obtain⟨i,hi,rfl⟩:=List.mem_map.1 ha
  obtain⟨_,_,h1,_⟩:=hf i (by simpa using hi)
  exact h1
end
section
variable {H:Type} {enc:TypeId×Value→H} {P:Program} {W:World} {t:TypeId} {A:Type} {e:A→List D} {Q:A→Prop}
theorem yi {h:Ay} {fz:Nat→Prop} {d:D} {x:Value} (r:Rd h fz d x):CD h fz (.one (oD d)) x:=Gu (H:=fun _=>none) (ME d) (WU r)
theorem eC {r:Reach} {base:Nat} {v:Value} {d:DataW H} {p:List MemPlace} {f:A→D} (hv:v.cells.toList=[v]) (h:DataW.Trod enc P W 0 (fun _=>true) true t v d p) (ho:Opn enc P W t (fun a=>[f a]) Q) :
  ∃a:A,Q a∧CD (hp W) (fun b=>b<W.heap.size) (.one (oD (f a))) v:=by
 obtain⟨fuel,hf⟩:=h
 obtain⟨a,a1,a2,a3⟩:=ho fuel _ _ hf
 obtain⟨v',v1,v2⟩:=a3 0 (f a) rfl
 rw[hv]at v1
 simp only[List.getElem?_cons_zero,jS]at v1
 subst v1
 exact⟨a,a1,yi v2⟩
theorem aw {r:Reach} {base:Nat} {v:Value} {et:TypeId} (ht:P.underlying t=some (.slice et)) (hv:Value.okWide P W r base t v):v.cells.toList=[v]:=by
 obtain⟨a,l,c,rfl⟩:=okWide_slice ht hv
 rfl
end
end Go.Sy
