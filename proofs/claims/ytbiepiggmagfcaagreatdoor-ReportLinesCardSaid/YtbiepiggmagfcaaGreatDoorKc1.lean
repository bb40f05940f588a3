/- Conditions as they are told: their tokens, and that they are read as what was told. No conditions but those in each statement. -/
import Derived.Test.YtbiepiggmagfcaaGreatDoorRp9
import Derived.Test.YtbiepiggmagfcaaGreatDoorPx2
set_option linter.unusedVariables false
set_option linter.unusedSimpArgs false
open List (mem_cons_of_mem)
namespace Go.Proofs.YtbiepiggmagfcaaGreatDoor
open Go Go.Sy Go.RowKit
def reC:Cd→Prop
 | .nil=>False
 | .mk k a b p q s=>(0≤k∧k≤5∧reE a∧reE b∧(AN a).fs≠(2,[40])∧p= .nil∧q= .nil∧s=[])∨((k=6∨k=7)∧a= .nil∧b= .nil∧s=[]∧reC p∧reC q)∨(k=8∧a= .nil∧b= .nil∧s=[]∧reC p∧q= .nil)∨(k=9∧a= .nil∧b= .nil∧p= .nil∧q= .nil∧nmP s)
def pcn (p:Bool) (c:Cc):Cc:=if p=true then .par c else c
def An:Cd→Cc
 | .nil=>.nul [] false
 | .mk k a b p q s=>
  if k=6 then .and (pcn (isB 7 p) (An p)) (pcn (isB 7 q||isB 6 q) (An q))
  else if k=7 then .or (An p) (pcn (isB 7 q) (An q))
  else if k=8 then (if isB 9 p=true then .nul p.nm true else .not (pcn (!isB 8 p) (An p)))
  else if k=9 then .nul s false
  else .cmp k.toNat (AN a) (AN b)
theorem W0 (p:Bool) (c:Cc):(pcn p c).v=c.v:=by cases p<;>rfl
theorem SB {p:Bool} {c:Cc} (h:c.wf):(pcn p c).wf:=by cases p<;>exact h
theorem LH (p:Bool) (c:Cc):(pcn p c).dp≤c.dp+1:=by cases p<;>simp[pcn,Cc.dp]
theorem W1 {p:Bool} {t:List UInt8} {c:Cc} (h:Lz t c.tk):Lz (enT p t) (pcn p c).tk:=by
 cases p with
 |false=>exact h
 |true=>exact(((Bs 40).wapp h).app (Bs 41).w (Ac 41 [])).cast rfl (by simp[pcn,Cc.tk])
structure caC (c:Cd):Prop where
 v:(An c).v=c
 w:(An c).wf
 l:(An c).lv=if isB 7 c=true then 2 else if isB 6 c=true then 1 else 0
 d:(An c).dp≤2*c.dp
 z:Lz (coT c) (An c).tk
 t:coT c≠[]
theorem A1y {o:Nat} (h:o<6):Lw ([32]++cpT o++[32]) [(2,cpT o)]∧∃q,[32]++cpT o++[32]=32::q:=by
 match o,h with
 |0,_=>exact⟨bV,_,rfl⟩
 |1,_=>exact⟨bW,_,rfl⟩
 |2,_=>exact⟨Lp.of (n:=3) (fun i=>[⟨2,[60],((i+1:Nat):Int)⟩]) (by decide) (fun _=>rfl) (fun f i r out=>by kernel_rfl),_,rfl⟩
 |3,_=>exact⟨Lp.of (n:=3) (fun i=>[⟨2,[60,61],((i+1:Nat):Int)⟩]) (by decide) (fun _=>rfl) (fun f i r out=>by kernel_rfl),_,rfl⟩
 |4,_=>exact⟨Lp.of (n:=3) (fun i=>[⟨2,[62],((i+1:Nat):Int)⟩]) (by decide) (fun _=>rfl) (fun f i r out=>by kernel_rfl),_,rfl⟩
 |5,_=>exact⟨Lp.of (n:=3) (fun i=>[⟨2,[62,61],((i+1:Nat):Int)⟩]) (by decide) (fun _=>rfl) (fun f i r out=>by kernel_rfl),_,rfl⟩
theorem A1z:Lw [32,124,124,32] [(2,[124,124])]:=Lp.of (n:=3) (fun i=>[⟨2,[124,124],((i+1:Nat):Int)⟩]) (by decide) (fun _=>rfl) (fun f i r out=>by kernel_rfl)
theorem bH {k:Int} (h0:0≤k) (h5:k≤5) (a b:Ex) (p q:Cd) (s:List UInt8):coT (.mk k a b p q s)=(exT a++([32]++cpT k.toNat++[32]))++exT b:=by
 have:k=0∨k=1∨k=2∨k=3∨k=4∨k=5:=by omega
 rcases this with rfl|rfl|rfl|rfl|rfl|rfl<;>rfl
theorem mb:Lz E5 [(0,E5)]:=(idn (by decide) (by decide)).2
theorem ef {s:List UInt8} (h:nmP s) (ne:Bool):Lz (s++((if ne=true then [32,33,61,32] else [32,61,61,32])++E5)) (Cc.nul s ne).tk:=by
 cases ne with
 |true=>exact(h.2.app (bW.wapp mb) ⟨32,_,rfl,by decide⟩).cast rfl rfl
 |false=>exact(h.2.app (bV.wapp mb) ⟨32,_,rfl,by decide⟩).cast rfl rfl
theorem vo {c:Cd} (q:caC c):(pcn (isB 7 c) (An c)).lv≤1:=by
 have:=q.l
 cases h:isB 7 c with
 |true=>exact Nat.zero_le _
 |false=>
  rw[h]at this
  show (An c).lv≤1
  rw[this,if_neg (by decide)];split<;>decide
theorem A7S {c:Cd} (q:caC c):(pcn (isB 7 c||isB 6 c) (An c)).lv=0:=by
 have:=q.l
 cases h:isB 7 c with
 |true=>rfl
 |false=>
  cases h2:isB 6 c with
  |true=>rfl
  |false=>
   rw[h,h2]at this
   exact this
theorem A7T {c:Cd} (q:caC c):(pcn (!isB 8 c) (An c)).lv=0:=by
 cases h:isB 8 c with
 |false=>rfl
 |true=>
  have l:=q.l
  have:isB 7 c=false∧isB 6 c=false:=by
   cases c with
   |nil=>exact⟨rfl,rfl⟩
   |mk k a b p q s=>
    have e:k=8:=eq_of_beq h
    rw[e];exact⟨rfl,rfl⟩
  rw[this.1,this.2]at l
  exact l
theorem vq {p:Cd} (hp:reC p) (h9:isB 9 p=true):∃s,p= .mk 9 .nil .nil .nil .nil s∧nmP s:=by
 cases p with
 |nil=>cases h9
 |mk k a b p' q' s=>
  have hk:k=9:=eq_of_beq h9
  subst hk
  rcases hp with⟨_,h5,_⟩|⟨hk,_⟩|⟨hk,_⟩|⟨_,rfl,rfl,rfl,rfl,hs⟩
  ·exact absurd h5 (by decide)
  ·exact absurd hk (by decide)
  ·exact absurd hk (by decide)
  ·exact⟨s,rfl,hs⟩
theorem vr {c:UInt8} (h:CZ (c.toNat:Int)=true):pE c=true:=by
 unfold pE
 cases e:c==61 with
 |false=>rfl
 |true=>
  have:c=61:=eq_of_beq e
  subst this
  revert h;decide
theorem A20 {p:Cd} (hp:reC p):∃c q,enT (!isB 8 p) (coT p)=c::q∧pE c=true:=by
 cases h8:isB 8 p with
 |false=>exact⟨40,_,rfl,by decide⟩
 |true=>
  cases p with
  |nil=>cases h8
  |mk k a b p' q' s=>
   have hk:k=8:=eq_of_beq h8
   subst hk
   have hp':reC p':=by
    rcases hp with⟨_,h5,_⟩|⟨hk,_⟩|⟨_,_,_,_,hp,_⟩|⟨hk,_⟩
    ·exact absurd h5 (by decide)
    ·exact absurd hk (by decide)
    ·exact hp
    ·exact absurd hk (by decide)
   show ∃c q,coT (.mk 8 a b p' q' s)=c::q∧pE c=true
   rw[co8]
   cases h9:isB 9 p' with
   |true=>
    obtain⟨t,rfl,ht⟩:=vq hp' h9
    obtain⟨c,r,e,hc⟩:=ht.1.2
    rw[if_pos rfl]
    exact⟨c,r++[32,33,61,32,110,117,108,108],by show t++_=_;rw[e];rfl,vr hc⟩
   |false=>
    rw[if_neg (by decide)]
    exact⟨33,_,rfl,by decide⟩
theorem bI:∀c:Cd,reC c→caC c
 | .nil,h=>h.elim
 | .mk k a b p q s,h=>by
  rcases h with⟨h0,h5,ha,hb,hf,rfl,rfl,rfl⟩|⟨hk,rfl,rfl,rfl,hp,hq⟩|⟨rfl,rfl,rfl,rfl,hp,rfl⟩|⟨rfl,rfl,rfl,rfl,rfl,hs⟩
  ·have qa:=UY a ha
   have qb:=UY b hb
   have da:=qa.d
   have db:=qb.d
   have e:An (.mk k a b .nil .nil [])= .cmp k.toNat (AN a) (AN b):=by
    simp only[An]
    rw[if_neg (by omega),if_neg (by omega),if_neg (by omega),if_neg (by omega)]
   have hk:k.toNat<6:=by omega
   obtain⟨l1,q,l2⟩:=A1y hk
   have e7:isB 7 (.mk k a b .nil .nil [])=false:=by show (k==7)=false;rw[beq_eq_false_iff_ne];omega
   have e6:isB 6 (.mk k a b .nil .nil [])=false:=by show (k==6)=false;rw[beq_eq_false_iff_ne];omega
   refine⟨?_,?_,?_,?_,?_,?_⟩
   ·rw[e];show Cd.mk (k.toNat:Int) (AN a).v (AN b).v .nil .nil []=_
    rw[qa.v,qb.v,Int.toNat_of_nonneg h0]
   ·rw[e];exact⟨hk,qa.w,qb.w,qa.n,qb.n,hf⟩
   ·rw[e,e7,e6];rfl
   ·rw[e];simp only[Cc.dp,Cd.dp];omega
   ·rw[e,bH h0 h5]
    exact((qa.z.app l1 ⟨32,q,l2,by decide⟩).wapp qb.z).cast rfl (by simp[Cc.tk])
   ·rw[bH h0 h5]
    have:=qa.t
    simp[this]
  ·have qp:=bI p hp
   have qq:=bI q hq
   have dp:=qp.d
   have dq:=qq.d
   rcases hk with rfl|rfl
   ·have e:An (.mk 6 .nil .nil p q [])= .and (pcn (isB 7 p) (An p)) (pcn (isB 7 q||isB 6 q) (An q)):=rfl
    have d1:=LH (isB 7 p) (An p)
    have d2:=LH (isB 7 q||isB 6 q) (An q)
    refine⟨?_,?_,?_,?_,?_,?_⟩
    ·rw[e];show Cd.mk 6 .nil .nil (pcn _ _).v (pcn _ _).v []=_
     rw[W0,W0,qp.v,qq.v]
    ·rw[e];exact⟨SB qp.w,SB qq.w,vo qp,A7S qq⟩
    ·rw[e];rfl
    ·rw[e];simp only[Cc.dp,Cd.dp];omega
    ·rw[e,co6]
     exact(((W1 qp.z).app mo ⟨32,_,rfl,by decide⟩).wapp (W1 qq.z)).cast rfl (by simp[Cc.tk])
    ·rw[co6];have:=hY (p:=isB 7 p) qp.t;simp[this]
   ·have e:An (.mk 7 .nil .nil p q [])= .or (An p) (pcn (isB 7 q) (An q)):=rfl
    have d2:=LH (isB 7 q) (An q)
    refine⟨?_,?_,?_,?_,?_,?_⟩
    ·rw[e];show Cd.mk 7 .nil .nil (An p).v (pcn _ _).v []=_
     rw[W0,qp.v,qq.v]
    ·rw[e];exact⟨qp.w,SB qq.w,vo qq⟩
    ·rw[e];rfl
    ·rw[e];simp only[Cc.dp,Cd.dp];omega
    ·rw[e,co7]
     exact((qp.z.app A1z ⟨32,_,rfl,by decide⟩).wapp (W1 qq.z)).cast rfl (by simp[Cc.tk])
    ·rw[co7];have:=qp.t;simp[this]
  ·have qp:=bI p hp
   have dp:=qp.d
   cases h9:isB 9 p with
   |true=>
    have e:An (.mk 8 .nil .nil p .nil [])= .nul p.nm true:=by
     show (if isB 9 p=true then Cc.nul p.nm true else _)=_
     rw[if_pos h9]
    obtain⟨s,rfl,hs⟩:=vq hp h9
    refine⟨?_,?_,?_,?_,?_,?_⟩
    ·rw[e];rfl
    ·rw[e];exact hs.1
    ·rw[e];rfl
    ·rw[e];exact Nat.zero_le _
    ·rw[e,co8,if_pos h9];exact ef hs true
    ·rw[co8,if_pos h9];simp
   |false=>
    have e:An (.mk 8 .nil .nil p .nil [])= .not (pcn (!isB 8 p) (An p)):=by
     show (if isB 9 p=true then Cc.nul p.nm true else _)=_
     rw[if_neg (by rw[h9];decide)]
    have d2:=LH (!isB 8 p) (An p)
    refine⟨?_,?_,?_,?_,?_,?_⟩
    ·rw[e];show Cd.mk 8 .nil .nil (pcn _ _).v .nil []=_
     rw[W0,qp.v]
    ·rw[e];exact⟨SB qp.w,A7T qp⟩
    ·rw[e];rfl
    ·rw[e];simp only[Cc.dp,Cd.dp];omega
    ·rw[e,co8,if_neg (by rw[h9];decide)]
     exact(Lp.app (ng 33) (W1 qp.z) (A20 hp)).cast rfl rfl
    ·rw[co8,if_neg (by rw[h9];decide)];simp
  ·have e:An (.mk 9 .nil .nil .nil .nil s)= .nul s false:=rfl
   refine⟨?_,?_,?_,?_,?_,?_⟩
   ·rw[e];rfl
   ·rw[e];exact hs.1
   ·rw[e];rfl
   ·rw[e];exact Nat.zero_le _
   ·rw[e,co9];exact ef hs false
   ·rw[co9];simp
end Go.Proofs.YtbiepiggmagfcaaGreatDoor
namespace Go.Proofs.YtbiepiggmagfcaaGreatDoor
open Go Go.Sy Go.RowKit
def tkG (t:Kt):Prop:=(t.1=0→Lz t.2 [(0,t.2)]∧∀c∈t.2,idB (c.toNat:Int)=true)∧(t.1=1→numO t.2)
theorem RF (p:Int→Bool):∀l:List UInt8,∀c∈l.take (spanN p l),p (c.toNat:Int)=true
 |[],c,h=>by simp at h
 |b::r,c,h=>by
  simp only[spanN]at h
  split at h
  ·rename_i hb
   rw[List.take_succ_cons]at h
   rcases List.mem_cons.1 h with rfl|h
   ·exact hb
   ·exact RF p r c h
  ·simp at h
theorem Uz (p:Int→Bool):∀l:List UInt8,∀c q,l.drop (spanN p l)=c::q→p (c.toNat:Int)=false
 |[],c,q,h=>by simp at h
 |b::r,c,q,h=>by
  simp only[spanN]at h
  split at h
  ·rw[List.drop_succ_cons]at h
   exact Uz p r c q h
  ·rename_i hb
   rw[List.drop_zero]at h
   rw[← (List.cons.inj h).1]
   simpa using hb
theorem V0 (p:Int→Bool) (l:List UInt8):(l.take (spanN p l)).length=spanN p l:=by
 rw[List.length_take];have:=HF p l;omega
theorem tk2 (t:List UInt8) (i:Int):tkG (kt ⟨2,t,i⟩):=⟨fun h=>absurd h (by show ¬(2:Int)=0;decide),fun h=>absurd h (by show ¬(2:Int)=1;decide)⟩
theorem LI:∀(f i:Nat) (s:List UInt8) (out T:List Tok),(∀t∈out,tkG (kt t))→rxG f i s out=(T,0,0)→∀t∈T,tkG (kt t)
 |0,i,s,out,T,ho,h=>by
  simp only[rxG,jP]at h
  rw[← h.1];exact ho
 |f+1,i,[],out,T,ho,h=>by
  simp only[rxG,jP]at h
  rw[← h.1];exact ho
 |f+1,i,c::r,out,T,ho,h=>by
  have snoc:∀x:Tok,tkG (kt x)→∀t∈out++[x],tkG (kt t):=fun x hx t ht=>by
   rcases List.mem_append.1 ht with ht|ht
   ·exact ho t ht
   ·rw[List.mem_singleton.1 ht];exact hx
  simp only[rxG]at h
  split at h
  ·exact LI f _ _ out T ho h
  split at h
  ·exact LI f _ _ out T ho h
  split at h
  ·rename_i hl
   split at h
   ·simp at h
   ·rename_i h32
    refine LI f _ _ _ T (snoc _ ⟨fun _=>?_,fun h=>absurd h (by show ¬(0:Int)=1;decide)⟩) h
    have hc:idB (c.toNat:Int)=true:=by unfold idB;rw[hl];rfl
    have hs:spanN idB (c::r)=spanN idB r+1:=by simp only[spanN];rw[if_pos hc]
    have h1:=RF idB (c::r)
    have h2:=V0 idB (c::r)
    have h3:spanN idB (c::r)≤32:=by simp only[decide_eq_true_eq]at h32;omega
    refine⟨?_,h1⟩
    show Lz ((c::r).take (spanN idB (c::r))) [(0,(c::r).take (spanN idB (c::r)))]
    rw[hs]at h1 h2 ⊢
    rw[List.take_succ_cons]at h1 h2 ⊢
    exact nZ ⟨c,_,rfl,hl⟩ h1 (by omega)
  split at h
  ·rename_i hd
   split at h
   ·simp at h
   rename_i hg
   split at h
   ·simp at h
   rename_i hz
   refine LI f _ _ _ T (snoc _ ⟨fun h=>absurd h (by show ¬(1:Int)=0;decide),fun _=>?_⟩) h
   have hs:spanN AR (c::r)=spanN AR r+1:=by simp only[spanN];rw[if_pos hd]
   have h1:=RF AR (c::r)
   have h2:=V0 AR (c::r)
   have h4:=Uz AR (c::r)
   show numO ((c::r).take (spanN AR (c::r)))
   have e:=Ua ((c::r).take (spanN AR (c::r))) ((c::r).drop (spanN AR (c::r))) 0 false h1 h4
   rw[List.take_append_drop]at e
   refine⟨h1,?_,?_,?_⟩
   ·rw[hs,List.take_succ_cons];simp
   ·by_cases h5:spanN AR (c::r)≤1
    ·left;rw[h2];omega
    ·right
     rw[hs,List.take_succ_cons]
     intro hh
     have hh:c=48:=by simpa using hh
     apply hz
     rw[hh]
     have:decide (1<((spanN AR (48::r):Nat):Int))=true:=by rw[decide_eq_true_eq];rw[hh]at h5;omega
     rw[this];simp
   ·rw[← e]
    unfold O1 at hg
    simp only[Bool.or_eq_true,decide_eq_true_eq,not_or]at hg
    exact⟨by simpa using hg.1,by omega⟩
  split at h
  ·exact LI f _ _ _ T (snoc _ (tk2 _ _)) h
  split at h
  ·exact LI f _ _ _ T (snoc _ (tk2 _ _)) h
  ·simp at h
theorem oh {t:List UInt8} {T:List Tok} (hl:t.length≤4096) (h:rxT t=(T,0,0)):∀k∈T.map kt,tkG k:=by
 have hr:rxT t=rxG t.length 0 t []:=by
  unfold rxT
  rw[if_neg (by simp;omega),TX _ _ _ _ (Nat.zero_le _)];rfl
 rw[hr]at h
 intro k hk
 obtain⟨x,hx,rfl⟩:=List.mem_map.1 hk
 exact LI _ _ _ _ _ (fun t ht=>by cases ht) h x hx
theorem SD:∀(d:List UInt8) (n:Int),(dgF d n true).2=true
 |[],n=>rfl
 |b::r,n=>by
  simp only[dgF]
  split
  ·split
   ·exact SD r _
   ·exact SD r _
  ·rfl
theorem oi {b:UInt8} (h:AR (b.toNat:Int)=true):∃k,k<10∧b=UInt8.ofNat (48+k):=by
 simp only[AR,Bool.and_eq_true,decide_eq_true_eq]at h
 refine⟨b.toNat-48,by omega,?_⟩
 apply UInt8.toNat_inj.1
 rw[show 48+(b.toNat-48)=b.toNat by omega]
 simp
theorem Z0:∀(d:List UInt8) (n:Int),(∀c∈d,AR (c.toNat:Int)=true)→0≤n→n≤9223372036854775807→(dgF d n false).2=false→(dgF d n false).1≤9223372036854775807→Ci d n=(dgF d n false).1∧0≤(dgF d n false).1
 |[],n,_,h0,_,_,_=>⟨rfl,h0⟩
 |b::d,n,hd,h0,h1,h2,h3=>by
  have hb:=hd b (by simp)
  have hd':∀c∈d,AR (c.toNat:Int)=true:=fun c hc=>hd c (mem_cons_of_mem _ hc)
  obtain⟨k,hk,rfl⟩:=oi hb
  obtain⟨a1,a2,a3,a4⟩:=cn hk
  have e0:∀g,dgF (UInt8.ofNat (48+k)::d) n g=dgF d (dgF [UInt8.ofNat (48+k)] n g).1 (dgF [UInt8.ofNat (48+k)] n g).2:=fun g=>TN [UInt8.ofNat (48+k)] d n g (fun c hc=>by rw[List.mem_singleton.1 hc];exact hb)
  by_cases hg:922337203685477580<n
  ·exfalso
   have:dgF [UInt8.ofNat (48+k)] n false=(n,true):=by
    simp only[dgF];rw[if_pos hb,if_pos (by simp;omega)]
   rw[e0,this,SD]at h2;cases h2
  ·have e1:=co (g:=false) hb a4 hk h0 (by omega:n≤922337203685477580)
   rw[e0,e1]at h2 h3 ⊢
   dsimp only at h2 h3 ⊢
   have e2:Ci (UInt8.ofNat (48+k)::d) n=Ci d (Ci [UInt8.ofNat (48+k)] n):=Ri [UInt8.ofNat (48+k)] d n
   cases d with
   |nil=>
    simp only[dgF]at h2 h3 ⊢
    rw[e2,TO a3 hk h0 h3]
    exact⟨rfl,by omega⟩
   |cons c d=>
    have h4:10*n+(k:Int)≤922337203685477580:=by
     apply Decidable.byContradiction
     intro h5
     have hc:=hd' c (by simp)
     have:dgF (c::d) (10*n+(k:Int)) false=dgF d (10*n+(k:Int)) true:=by
      simp only[dgF];rw[if_pos hc,if_pos (by simp;omega)]
     rw[this,SD]at h2;cases h2
    rw[e2,TO a3 hk h0 (by omega)]
    exact Z0 (c::d) _ hd' (by omega) (by omega) h2 h3
theorem numO.num {d:List UInt8} (h:numO d):0≤Ci d 0∧Ci d 0≤9223372036854775807:=by
 obtain⟨a,b⟩:=Z0 d 0 h.dg (Int.le_refl _) (by decide) h.g.1 h.g.2
 have:=h.g.2
 omega
theorem Cx.re:∀c:Cx,c.wf→c.nm→(∀t∈c.tk,tkG t)→reE c.v
 | .num d,_,_,h=>by
  have:=((h _ (List.mem_singleton.2 rfl)).2 rfl).num
  exact .inl ⟨rfl,this.1,this.2,rfl,rfl,rfl⟩
 | .var s,hw,hn,h=>.inr (.inl ⟨rfl,rfl,⟨⟨hw,hn⟩,((h _ (List.mem_singleton.2 rfl)).1 rfl).1⟩,rfl,rfl⟩)
 | .neg u,hw,hn,h=>.inr (.inr (.inl ⟨rfl,rfl,rfl,u.re hw.2 hn (fun t ht=>h t (mem_cons_of_mem _ ht)),rfl⟩))
 | .par u,hw,hn,h=>u.re hw hn (fun t ht=>h t (mem_cons_of_mem _ (List.mem_append_left _ ht)))
 | .bin o a b,hw,hn,h=>by
  have ha:∀t∈a.tk,tkG t:=fun t ht=>h t (List.mem_append_left _ ht)
  have hb:∀t∈b.tk,tkG t:=fun t ht=>h t (List.mem_append_right _ (mem_cons_of_mem _ ht))
  rcases hw with⟨ho,_,w1,w2⟩|⟨ho,_,_,w1,w2⟩
  ·exact .inr (.inr (.inr ⟨by omega,rfl,rfl,a.re w1 hn.1 ha,b.re w2 hn.2 hb⟩))
  ·exact .inr (.inr (.inr ⟨by omega,rfl,rfl,a.re w1 hn.1 ha,b.re w2 hn.2 hb⟩))
theorem Z1 {k:Int} (hk:k=2∨k=3) (a b:Ex):AN (.mk k 0 [] a b)= .bin k (AN a) (prn (suB b) (AN b))∧suB (.mk k 0 [] a b)=true:=by
 rcases hk with rfl|rfl<;>exact⟨rfl,rfl⟩
theorem Z2 {k:Int} (hk:k=4∨k=5∨k=6) (a b:Ex):AN (.mk k 0 [] a b)= .bin k (prn (suB a) (AN a)) (prn (suB b||C3 b) (AN b))∧suB (.mk k 0 [] a b)=false∧C3 (.mk k 0 [] a b)=true:=by
 rcases hk with rfl|rfl|rfl<;>exact⟨rfl,rfl,rfl⟩
theorem Tx:∀c:Cx,c.wf→c.fs≠(2,[40])→(AN c.v).fs≠(2,[40])∧(suB c.v=true→∃o a b,c= .bin o a b∧o≤3)
 | .num d,_,_=>⟨by show ((1:Int),_)≠((2:Int),_);simp,fun h=>by cases h⟩
 | .var s,_,_=>⟨by show ((0:Int),_)≠((2:Int),_);simp,fun h=>by cases h⟩
 | .neg u,_,_=>⟨by show ((2:Int),[45])≠((2:Int),[(40:UInt8)]);decide,fun h=>by cases h⟩
 | .par u,_,h=>absurd rfl h
 | .bin o a b,hw,h=>by
  rcases hw with⟨ho,l1,w1,w2⟩|⟨ho,l1,l2,w1,w2⟩
  ·have:=Tx a w1 h
   refine⟨?_,fun _=>⟨o,a,b,rfl,by omega⟩⟩
   show (AN (.mk o 0 [] a.v b.v)).fs≠_
   rw[(Z1 ho _ _).1];exact this.1
  ·obtain⟨g1,g2⟩:=Tx a w1 h
   obtain⟨e1,e2,e3⟩:=Z2 ho a.v b.v
   refine⟨?_,fun hs=>?_⟩
   ·show (AN (.mk o 0 [] a.v b.v)).fs≠_
    rw[e1]
    cases hs:suB a.v with
    |false=>exact g1
    |true=>
     obtain⟨o',x,y,rfl,h3⟩:=g2 hs
     simp only[Cx.lv]at l1
     rw[if_pos h3]at l1;omega
   ·have hs:suB (.mk o 0 [] a.v b.v)=true:=hs
    rw[e2]at hs;cases hs
theorem G1:∀c:Cx,c.wf→(AN c.v).dp≤c.dp∧(c.lv≤1→(prn (suB c.v) (AN c.v)).dp≤c.dp)∧(c.lv=0→(prn (suB c.v||C3 c.v) (AN c.v)).dp≤c.dp)
 | .num d,_=>⟨Nat.le_refl _,fun _=>Nat.le_refl _,fun _=>Nat.le_refl _⟩
 | .var s,_=>⟨Nat.le_refl _,fun _=>Nat.le_refl _,fun _=>Nat.le_refl _⟩
 | .neg u,hw=>by
  have h:=(G1 u hw.2).2.2 hw.1
  have e:(AN (Cx.neg u).v).dp=(prn (suB u.v||C3 u.v) (AN u.v)).dp+1:=rfl
  have h2:(AN (Cx.neg u).v).dp≤(Cx.neg u).dp:=by rw[e];show _≤u.dp+1;omega
  exact⟨h2,fun _=>h2,fun _=>h2⟩
 | .par u,hw=>by
  obtain⟨h1,_,_⟩:=G1 u hw
  have p1:=Nh (suB u.v) (AN u.v)
  have p2:=Nh (suB u.v||C3 u.v) (AN u.v)
  show (AN u.v).dp≤u.dp+1∧(_→(prn (suB u.v) (AN u.v)).dp≤u.dp+1)∧(_→(prn (suB u.v||C3 u.v) (AN u.v)).dp≤u.dp+1)
  exact⟨by omega,fun _=>by omega,fun _=>by omega⟩
 | .bin o a b,hw=>by
  show (AN (.mk o 0 [] a.v b.v)).dp≤max a.dp b.dp∧(_→(prn (suB (.mk o 0 [] a.v b.v)) (AN (.mk o 0 [] a.v b.v))).dp≤max a.dp b.dp)∧(_→_)
  rcases hw with⟨ho,l1,w1,w2⟩|⟨ho,l1,l2,w1,w2⟩
  ·obtain⟨e1,e2⟩:=Z1 ho a.v b.v
   have h1:=(G1 a w1).1
   have h2:=(G1 b w2).2.1 l1
   have hl:(Cx.bin o a b).lv=2:=by simp only[Cx.lv];rw[if_pos (by omega)]
   refine⟨by rw[e1];simp only[Cx.dp];omega,fun h=>?_,fun h=>?_⟩
   ·rw[hl]at h;omega
   ·rw[hl]at h;omega
  ·obtain⟨e1,e2,e3⟩:=Z2 ho a.v b.v
   have h1:=(G1 a w1).2.1 l1
   have h2:=(G1 b w2).2.2 l2
   have hl:(Cx.bin o a b).lv=1:=by simp only[Cx.lv];rw[if_neg (by omega)]
   have h3:(AN (.mk o 0 [] a.v b.v)).dp≤max a.dp b.dp:=by rw[e1];simp only[Cx.dp];omega
   refine⟨h3,fun h=>by rw[e2];exact h3,fun h=>?_⟩
   rw[hl]at h;omega
theorem Cc.re:∀c:Cc,c.wf→(∀t∈c.tk,tkG t)→reC c.v
 | .cmp o a b,hw,h=>by
  obtain⟨ho,wa,wb,na,nb,hf⟩:=hw
  exact .inl ⟨by omega,by omega,a.re wa na (fun t ht=>h t (List.mem_append_left _ ht)),b.re wb nb (fun t ht=>h t (List.mem_append_right _ (mem_cons_of_mem _ ht))),(Tx a wa hf).1,rfl,rfl,rfl⟩
 | .nul s ne,hw,h=>by
  have hn:nmP s:=⟨hw,((h (0,s) (List.mem_cons_self ..)).1 rfl).1⟩
  have h9:reC (.mk 9 .nil .nil .nil .nil s):=.inr (.inr (.inr ⟨rfl,rfl,rfl,rfl,rfl,hn⟩))
  cases ne with
  |true=>exact .inr (.inr (.inl ⟨rfl,rfl,rfl,rfl,h9,rfl⟩))
  |false=>exact h9
 | .not u,hw,h=>.inr (.inr (.inl ⟨rfl,rfl,rfl,rfl,u.re hw.1 (fun t ht=>h t (mem_cons_of_mem _ ht)),rfl⟩))
 | .par u,hw,h=>u.re hw (fun t ht=>h t (mem_cons_of_mem _ (List.mem_append_left _ ht)))
 | .and a b,hw,h=>.inr (.inl ⟨.inl rfl,rfl,rfl,rfl,a.re hw.1 (fun t ht=>h t (List.mem_append_left _ ht)),b.re hw.2.1 (fun t ht=>h t (List.mem_append_right _ (mem_cons_of_mem _ ht)))⟩)
 | .or a b,hw,h=>.inr (.inl ⟨.inr rfl,rfl,rfl,rfl,a.re hw.1 (fun t ht=>h t (List.mem_append_left _ ht)),b.re hw.2.1 (fun t ht=>h t (List.mem_append_right _ (mem_cons_of_mem _ ht)))⟩)
theorem IX:∀c:Cc,c.wf→(An c.v).dp≤2*c.dp∧(c.lv≤1→(pcn (isB 7 c.v) (An c.v)).dp≤2*c.dp)∧(c.lv=0→(pcn (isB 7 c.v||isB 6 c.v) (An c.v)).dp≤2*c.dp)
 | .cmp o a b,hw=>by
  obtain⟨ho,wa,wb,na,nb,hf⟩:=hw
  have h1:=(G1 a wa).1
  have h2:=(G1 b wb).1
  have e:An (Cc.cmp o a b).v= .cmp (Int.toNat (o:Int)) (AN a.v) (AN b.v):=by
   show An (.mk (o:Int) a.v b.v .nil .nil [])=_
   simp only[An]
   rw[if_neg (by omega),if_neg (by omega),if_neg (by omega),if_neg (by omega)]
  have e7:isB 7 (Cc.cmp o a b).v=false:=by show ((o:Int)==7)=false;rw[beq_eq_false_iff_ne];omega
  have e6:isB 6 (Cc.cmp o a b).v=false:=by show ((o:Int)==6)=false;rw[beq_eq_false_iff_ne];omega
  rw[e7,e6,e]
  have h3:(Cc.cmp (Int.toNat (o:Int)) (AN a.v) (AN b.v)).dp≤2*(Cc.cmp o a b).dp:=by simp only[Cc.dp];omega
  exact⟨h3,fun _=>h3,fun _=>h3⟩
 | .nul s ne,_=>by
  have h:An (Cc.nul s ne).v= .nul s ne∧isB 7 (Cc.nul s ne).v=false∧isB 6 (Cc.nul s ne).v=false:=by cases ne<;>exact⟨rfl,rfl,rfl⟩
  rw[h.1,h.2.1,h.2.2]
  exact⟨Nat.zero_le _,fun _=>Nat.zero_le _,fun _=>Nat.zero_le _⟩
 | .not u,hw=>by
  obtain⟨h1,_,_⟩:=IX u hw.1
  have p:=LH (!isB 8 u.v) (An u.v)
  have h3:(An (Cc.not u).v).dp≤2*(Cc.not u).dp:=by
   show (if isB 9 u.v=true then Cc.nul u.v.nm true else Cc.not (pcn (!isB 8 u.v) (An u.v))).dp≤2*(u.dp+1)
   split
   ·exact Nat.zero_le _
   ·simp only[Cc.dp];omega
  exact⟨h3,fun _=>h3,fun _=>h3⟩
 | .par u,hw=>by
  obtain⟨h1,_,_⟩:=IX u hw
  have p1:=LH (isB 7 u.v) (An u.v)
  have p2:=LH (isB 7 u.v||isB 6 u.v) (An u.v)
  show (An u.v).dp≤2*(u.dp+1)∧(_→(pcn (isB 7 u.v) (An u.v)).dp≤2*(u.dp+1))∧(_→(pcn (isB 7 u.v||isB 6 u.v) (An u.v)).dp≤2*(u.dp+1))
  exact⟨by omega,fun _=>by omega,fun _=>by omega⟩
 | .and a b,hw=>by
  obtain⟨wa,wb,la,lb⟩:=hw
  have h1:=(IX a wa).2.1 la
  have h2:=(IX b wb).2.2 lb
  have h3:(An (Cc.and a b).v).dp≤2*(Cc.and a b).dp:=by
   show (Cc.and (pcn (isB 7 a.v) (An a.v)) (pcn (isB 7 b.v||isB 6 b.v) (An b.v))).dp≤_
   simp only[Cc.dp];omega
  exact⟨h3,fun _=>h3,fun h=>absurd h (by show ¬(1:Nat)=0;decide)⟩
 | .or a b,hw=>by
  obtain⟨wa,wb,lb⟩:=hw
  have h1:=(IX a wa).1
  have h2:=(IX b wb).2.1 lb
  have h3:(An (Cc.or a b).v).dp≤2*(Cc.or a b).dp:=by
   show (Cc.or (An a.v) (pcn (isB 7 b.v) (An b.v))).dp≤_
   simp only[Cc.dp];omega
  exact⟨h3,fun h=>absurd h (by show ¬(2:Nat)≤1;decide),fun h=>absurd h (by show ¬(2:Nat)=0;decide)⟩
end Go.Proofs.YtbiepiggmagfcaaGreatDoor
