/- Conditions as they are told: their tokens, and that they are read as what was told. No conditions but those in each statement. -/
import Derived.Test.YtbiepiggmagfcaaDoorDc
import Derived.Test.YtbiepiggmagfcaaDoorPx2
set_option linter.unusedVariables false
set_option linter.unusedSimpArgs false
namespace Go.Proofs.YtbiepiggmagfcaaDoor
open Go Go.Sy Go.RowKit
def reC:Cd→Prop
 | .nil=>False
 | .mk k a b p q s=>(0≤k∧k≤5∧reE a∧reE b∧(canE a).fs≠(2,[40])∧p= .nil∧q= .nil∧s=[])∨((k=6∨k=7)∧a= .nil∧b= .nil∧s=[]∧reC p∧reC q)∨(k=8∧a= .nil∧b= .nil∧s=[]∧reC p∧q= .nil)∨(k=9∧a= .nil∧b= .nil∧p= .nil∧q= .nil∧nmP s)
def pcn (p:Bool) (c:Cc):Cc:=if p=true then .par c else c
def canC:Cd→Cc
 | .nil=>.nul [] false
 | .mk k a b p q s=>
  if k=6 then .and (pcn (isB 7 p) (canC p)) (pcn (isB 7 q||isB 6 q) (canC q))
  else if k=7 then .or (canC p) (pcn (isB 7 q) (canC q))
  else if k=8 then (if isB 9 p=true then .nul p.nm true else .not (pcn (!isB 8 p) (canC p)))
  else if k=9 then .nul s false
  else .cmp k.toNat (canE a) (canE b)
theorem pcn_v (p:Bool) (c:Cc):(pcn p c).v=c.v:=by cases p<;>rfl
theorem pcn_wf {p:Bool} {c:Cc} (h:c.wf):(pcn p c).wf:=by cases p<;>exact h
theorem pcn_dp (p:Bool) (c:Cc):(pcn p c).dp≤c.dp+1:=by cases p<;>simp[pcn,Cc.dp]
theorem pcn_z {p:Bool} {t:List UInt8} {c:Cc} (h:Lz t c.tk):Lz (enT p t) (pcn p c).tk:=by
 cases p with
 |false=>exact h
 |true=>exact(((lw_sg 40).wapp h).app (lw_sg 41).w (pS_c 41 [])).cast rfl (by simp[pcn,Cc.tk])
structure caC (c:Cd):Prop where
 v:(canC c).v=c
 w:(canC c).wf
 l:(canC c).lv=if isB 7 c=true then 2 else if isB 6 c=true then 1 else 0
 d:(canC c).dp≤2*c.dp
 z:Lz (coT c) (canC c).tk
 t:coT c≠[]
theorem lw_cp {o:Nat} (h:o<6):Lw ([32]++cpT o++[32]) [(2,cpT o)]∧∃q,[32]++cpT o++[32]=32::q:=by
 match o,h with
 |0,_=>exact⟨lw_e0,_,rfl⟩
 |1,_=>exact⟨lw_e1,_,rfl⟩
 |2,_=>exact⟨Lp.of (n:=3) (fun i=>[⟨2,[60],((i+1:Nat):Int)⟩]) (by decide) (fun _=>rfl) (fun f i r out=>by kernel_rfl),_,rfl⟩
 |3,_=>exact⟨Lp.of (n:=3) (fun i=>[⟨2,[60,61],((i+1:Nat):Int)⟩]) (by decide) (fun _=>rfl) (fun f i r out=>by kernel_rfl),_,rfl⟩
 |4,_=>exact⟨Lp.of (n:=3) (fun i=>[⟨2,[62],((i+1:Nat):Int)⟩]) (by decide) (fun _=>rfl) (fun f i r out=>by kernel_rfl),_,rfl⟩
 |5,_=>exact⟨Lp.of (n:=3) (fun i=>[⟨2,[62,61],((i+1:Nat):Int)⟩]) (by decide) (fun _=>rfl) (fun f i r out=>by kernel_rfl),_,rfl⟩
theorem lw_oo:Lw [32,124,124,32] [(2,[124,124])]:=Lp.of (n:=3) (fun i=>[⟨2,[124,124],((i+1:Nat):Int)⟩]) (by decide) (fun _=>rfl) (fun f i r out=>by kernel_rfl)
theorem cmp_t {k:Int} (h0:0≤k) (h5:k≤5) (a b:Ex) (p q:Cd) (s:List UInt8):coT (.mk k a b p q s)=(exT a++([32]++cpT k.toNat++[32]))++exT b:=by
 have:k=0∨k=1∨k=2∨k=3∨k=4∨k=5:=by omega
 rcases this with rfl|rfl|rfl|rfl|rfl|rfl<;>rfl
theorem lz_nl:Lz kNul [(0,kNul)]:=(idn (by decide) (by decide)).2
theorem lz_nm1 {s:List UInt8} (h:nmP s) (ne:Bool):Lz (s++((if ne=true then [32,33,61,32] else [32,61,61,32])++kNul)) (Cc.nul s ne).tk:=by
 cases ne with
 |true=>exact(h.2.app (lw_e1.wapp lz_nl) ⟨32,_,rfl,by decide⟩).cast rfl rfl
 |false=>exact(h.2.app (lw_e0.wapp lz_nl) ⟨32,_,rfl,by decide⟩).cast rfl rfl
theorem lvc1 {c:Cd} (q:caC c):(pcn (isB 7 c) (canC c)).lv≤1:=by
 have:=q.l
 cases h:isB 7 c with
 |true=>exact Nat.zero_le _
 |false=>
  rw[h]at this
  show (canC c).lv≤1
  rw[this,if_neg (by decide)];split<;>decide
theorem lvc0 {c:Cd} (q:caC c):(pcn (isB 7 c||isB 6 c) (canC c)).lv=0:=by
 have:=q.l
 cases h:isB 7 c with
 |true=>rfl
 |false=>
  cases h2:isB 6 c with
  |true=>rfl
  |false=>
   rw[h,h2]at this
   exact this
theorem lvc8 {c:Cd} (q:caC c):(pcn (!isB 8 c) (canC c)).lv=0:=by
 cases h:isB 8 c with
 |false=>rfl
 |true=>
  have l:=q.l
  have:isB 7 c=false∧isB 6 c=false:=by
   cases c with
   |nil=>exact⟨rfl,rfl⟩
   |mk k a b p q s=>
    have e:k=8:=eq_of_beq h
    rw[e];exact⟨rfl,rfl⟩
  rw[this.1,this.2]at l
  exact l
theorem reC9 {p:Cd} (hp:reC p) (h9:isB 9 p=true):∃s,p= .mk 9 .nil .nil .nil .nil s∧nmP s:=by
 cases p with
 |nil=>cases h9
 |mk k a b p' q' s=>
  have hk:k=9:=eq_of_beq h9
  subst hk
  rcases hp with⟨_,h5,_⟩|⟨hk,_⟩|⟨hk,_⟩|⟨_,rfl,rfl,rfl,rfl,hs⟩
  ·exact absurd h5 (by decide)
  ·exact absurd hk (by decide)
  ·exact absurd hk (by decide)
  ·exact⟨s,rfl,hs⟩
theorem pE_let {c:UInt8} (h:letB (c.toNat:Int)=true):pE c=true:=by
 unfold pE
 cases e:c==61 with
 |false=>rfl
 |true=>
  have:c=61:=eq_of_beq e
  subst this
  revert h;decide
theorem en8_s {p:Cd} (hp:reC p):∃c q,enT (!isB 8 p) (coT p)=c::q∧pE c=true:=by
 cases h8:isB 8 p with
 |false=>exact⟨40,_,rfl,by decide⟩
 |true=>
  cases p with
  |nil=>cases h8
  |mk k a b p' q' s=>
   have hk:k=8:=eq_of_beq h8
   subst hk
   have hp':reC p':=by
    rcases hp with⟨_,h5,_⟩|⟨hk,_⟩|⟨_,_,_,_,hp,_⟩|⟨hk,_⟩
    ·exact absurd h5 (by decide)
    ·exact absurd hk (by decide)
    ·exact hp
    ·exact absurd hk (by decide)
   show ∃c q,coT (.mk 8 a b p' q' s)=c::q∧pE c=true
   rw[co8]
   cases h9:isB 9 p' with
   |true=>
    obtain⟨t,rfl,ht⟩:=reC9 hp' h9
    obtain⟨c,r,e,hc⟩:=ht.1.2
    rw[if_pos rfl]
    exact⟨c,r++[32,33,61,32,110,117,108,108],by show t++_=_;rw[e];rfl,pE_let hc⟩
   |false=>
    rw[if_neg (by decide)]
    exact⟨33,_,rfl,by decide⟩
theorem ca_c:∀c:Cd,reC c→caC c
 | .nil,h=>h.elim
 | .mk k a b p q s,h=>by
  rcases h with⟨h0,h5,ha,hb,hf,rfl,rfl,rfl⟩|⟨hk,rfl,rfl,rfl,hp,hq⟩|⟨rfl,rfl,rfl,rfl,hp,rfl⟩|⟨rfl,rfl,rfl,rfl,rfl,hs⟩
  ·have qa:=ca_q a ha
   have qb:=ca_q b hb
   have da:=qa.d
   have db:=qb.d
   have e:canC (.mk k a b .nil .nil [])= .cmp k.toNat (canE a) (canE b):=by
    simp only[canC]
    rw[if_neg (by omega),if_neg (by omega),if_neg (by omega),if_neg (by omega)]
   have hk:k.toNat<6:=by omega
   obtain⟨l1,q,l2⟩:=lw_cp hk
   have e7:isB 7 (.mk k a b .nil .nil [])=false:=by show (k==7)=false;rw[beq_eq_false_iff_ne];omega
   have e6:isB 6 (.mk k a b .nil .nil [])=false:=by show (k==6)=false;rw[beq_eq_false_iff_ne];omega
   refine⟨?_,?_,?_,?_,?_,?_⟩
   ·rw[e];show Cd.mk (k.toNat:Int) (canE a).v (canE b).v .nil .nil []=_
    rw[qa.v,qb.v,Int.toNat_of_nonneg h0]
   ·rw[e];exact⟨hk,qa.w,qb.w,qa.n,qb.n,hf⟩
   ·rw[e,e7,e6];rfl
   ·rw[e];simp only[Cc.dp,Cd.dp];omega
   ·rw[e,cmp_t h0 h5]
    exact((qa.z.app l1 ⟨32,q,l2,by decide⟩).wapp qb.z).cast rfl (by simp[Cc.tk])
   ·rw[cmp_t h0 h5]
    have:=qa.t
    simp[this]
  ·have qp:=ca_c p hp
   have qq:=ca_c q hq
   have dp:=qp.d
   have dq:=qq.d
   rcases hk with rfl|rfl
   ·have e:canC (.mk 6 .nil .nil p q [])= .and (pcn (isB 7 p) (canC p)) (pcn (isB 7 q||isB 6 q) (canC q)):=rfl
    have d1:=pcn_dp (isB 7 p) (canC p)
    have d2:=pcn_dp (isB 7 q||isB 6 q) (canC q)
    refine⟨?_,?_,?_,?_,?_,?_⟩
    ·rw[e];show Cd.mk 6 .nil .nil (pcn _ _).v (pcn _ _).v []=_
     rw[pcn_v,pcn_v,qp.v,qq.v]
    ·rw[e];exact⟨pcn_wf qp.w,pcn_wf qq.w,lvc1 qp,lvc0 qq⟩
    ·rw[e];rfl
    ·rw[e];simp only[Cc.dp,Cd.dp];omega
    ·rw[e,co6]
     exact(((pcn_z qp.z).app lw_aa ⟨32,_,rfl,by decide⟩).wapp (pcn_z qq.z)).cast rfl (by simp[Cc.tk])
    ·rw[co6];have:=enT_ne (p:=isB 7 p) qp.t;simp[this]
   ·have e:canC (.mk 7 .nil .nil p q [])= .or (canC p) (pcn (isB 7 q) (canC q)):=rfl
    have d2:=pcn_dp (isB 7 q) (canC q)
    refine⟨?_,?_,?_,?_,?_,?_⟩
    ·rw[e];show Cd.mk 7 .nil .nil (canC p).v (pcn _ _).v []=_
     rw[pcn_v,qp.v,qq.v]
    ·rw[e];exact⟨qp.w,pcn_wf qq.w,lvc1 qq⟩
    ·rw[e];rfl
    ·rw[e];simp only[Cc.dp,Cd.dp];omega
    ·rw[e,co7]
     exact((qp.z.app lw_oo ⟨32,_,rfl,by decide⟩).wapp (pcn_z qq.z)).cast rfl (by simp[Cc.tk])
    ·rw[co7];have:=qp.t;simp[this]
  ·have qp:=ca_c p hp
   have dp:=qp.d
   cases h9:isB 9 p with
   |true=>
    have e:canC (.mk 8 .nil .nil p .nil [])= .nul p.nm true:=by
     show (if isB 9 p=true then Cc.nul p.nm true else _)=_
     rw[if_pos h9]
    obtain⟨s,rfl,hs⟩:=reC9 hp h9
    refine⟨?_,?_,?_,?_,?_,?_⟩
    ·rw[e];rfl
    ·rw[e];exact hs.1
    ·rw[e];rfl
    ·rw[e];exact Nat.zero_le _
    ·rw[e,co8,if_pos h9];exact lz_nm1 hs true
    ·rw[co8,if_pos h9];simp
   |false=>
    have e:canC (.mk 8 .nil .nil p .nil [])= .not (pcn (!isB 8 p) (canC p)):=by
     show (if isB 9 p=true then Cc.nul p.nm true else _)=_
     rw[if_neg (by rw[h9];decide)]
    have d2:=pcn_dp (!isB 8 p) (canC p)
    refine⟨?_,?_,?_,?_,?_,?_⟩
    ·rw[e];show Cd.mk 8 .nil .nil (pcn _ _).v .nil []=_
     rw[pcn_v,qp.v]
    ·rw[e];exact⟨pcn_wf qp.w,lvc8 qp⟩
    ·rw[e];rfl
    ·rw[e];simp only[Cc.dp,Cd.dp];omega
    ·rw[e,co8,if_neg (by rw[h9];decide)]
     exact(Lp.app (lp_eq 33) (pcn_z qp.z) (en8_s hp)).cast rfl rfl
    ·rw[co8,if_neg (by rw[h9];decide)];simp
  ·have e:canC (.mk 9 .nil .nil .nil .nil s)= .nul s false:=rfl
   refine⟨?_,?_,?_,?_,?_,?_⟩
   ·rw[e];rfl
   ·rw[e];exact hs.1
   ·rw[e];rfl
   ·rw[e];exact Nat.zero_le _
   ·rw[e,co9];exact lz_nm1 hs false
   ·rw[co9];simp
end Go.Proofs.YtbiepiggmagfcaaDoor
