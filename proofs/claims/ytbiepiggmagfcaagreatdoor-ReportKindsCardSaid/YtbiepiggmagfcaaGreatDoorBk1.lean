/- A text's tokens are good; sums and conditions in the form in which they are told. No conditions but those in each statement. -/
import Derived.Test.YtbiepiggmagfcaaGreatDoorKs1
set_option linter.unusedVariables false
set_option linter.unusedSimpArgs false
namespace Go.Proofs.YtbiepiggmagfcaaGreatDoor
open Go Go.Sy Go.RowKit
def tkG (t:Kt):Prop:=(t.1=0→Lz t.2 [(0,t.2)]∧∀c∈t.2,idB (c.toNat:Int)=true)∧(t.1=1→numO t.2)
theorem span_all (p:Int→Bool):∀l:List UInt8,∀c∈l.take (spanN p l),p (c.toNat:Int)=true
 |[],c,h=>by simp at h
 |b::r,c,h=>by
  simp only[spanN]at h
  split at h
  ·rename_i hb
   rw[List.take_succ_cons]at h
   rcases List.mem_cons.1 h with rfl|h
   ·exact hb
   ·exact span_all p r c h
  ·simp at h
theorem span_stop (p:Int→Bool):∀l:List UInt8,∀c q,l.drop (spanN p l)=c::q→p (c.toNat:Int)=false
 |[],c,q,h=>by simp at h
 |b::r,c,q,h=>by
  simp only[spanN]at h
  split at h
  ·rw[List.drop_succ_cons]at h
   exact span_stop p r c q h
  ·rename_i hb
   rw[List.drop_zero]at h
   rw[← (List.cons.inj h).1]
   simpa using hb
theorem span_take (p:Int→Bool) (l:List UInt8):(l.take (spanN p l)).length=spanN p l:=by
 rw[List.length_take];have:=spanN_le p l;omega
theorem tk2 (t:List UInt8) (i:Int):tkG (kt ⟨2,t,i⟩):=⟨fun h=>absurd h (by show ¬(2:Int)=0;decide),fun h=>absurd h (by show ¬(2:Int)=1;decide)⟩
theorem rxG_ok:∀(f i:Nat) (s:List UInt8) (out T:List Tok),(∀t∈out,tkG (kt t))→rxG f i s out=(T,0,0)→∀t∈T,tkG (kt t)
 |0,i,s,out,T,ho,h=>by
  simp only[rxG,Prod.mk.injEq]at h
  rw[← h.1];exact ho
 |f+1,i,[],out,T,ho,h=>by
  simp only[rxG,Prod.mk.injEq]at h
  rw[← h.1];exact ho
 |f+1,i,c::r,out,T,ho,h=>by
  have snoc:∀x:Tok,tkG (kt x)→∀t∈out++[x],tkG (kt t):=fun x hx t ht=>by
   rcases List.mem_append.1 ht with ht|ht
   ·exact ho t ht
   ·rw[List.mem_singleton.1 ht];exact hx
  simp only[rxG]at h
  split at h
  ·exact rxG_ok f _ _ out T ho h
  split at h
  ·exact rxG_ok f _ _ out T ho h
  split at h
  ·rename_i hl
   split at h
   ·simp at h
   ·rename_i h32
    refine rxG_ok f _ _ _ T (snoc _ ⟨fun _=>?_,fun h=>absurd h (by show ¬(0:Int)=1;decide)⟩) h
    have hc:idB (c.toNat:Int)=true:=by unfold idB;rw[hl];rfl
    have hs:spanN idB (c::r)=spanN idB r+1:=by simp only[spanN];rw[if_pos hc]
    have h1:=span_all idB (c::r)
    have h2:=span_take idB (c::r)
    have h3:spanN idB (c::r)≤32:=by simp only[decide_eq_true_eq]at h32;omega
    refine⟨?_,h1⟩
    show Lz ((c::r).take (spanN idB (c::r))) [(0,(c::r).take (spanN idB (c::r)))]
    rw[hs]at h1 h2 ⊢
    rw[List.take_succ_cons]at h1 h2 ⊢
    exact lz_nm ⟨c,_,rfl,hl⟩ h1 (by omega)
  split at h
  ·rename_i hd
   split at h
   ·simp at h
   rename_i hg
   split at h
   ·simp at h
   rename_i hz
   refine rxG_ok f _ _ _ T (snoc _ ⟨fun h=>absurd h (by show ¬(1:Int)=0;decide),fun _=>?_⟩) h
   have hs:spanN digB (c::r)=spanN digB r+1:=by simp only[spanN];rw[if_pos hd]
   have h1:=span_all digB (c::r)
   have h2:=span_take digB (c::r)
   have h4:=span_stop digB (c::r)
   show numO ((c::r).take (spanN digB (c::r)))
   have e:=dgF_app ((c::r).take (spanN digB (c::r))) ((c::r).drop (spanN digB (c::r))) 0 false h1 h4
   rw[List.take_append_drop]at e
   refine⟨h1,?_,?_,?_⟩
   ·rw[hs,List.take_succ_cons];simp
   ·by_cases h5:spanN digB (c::r)≤1
    ·left;rw[h2];omega
    ·right
     rw[hs,List.take_succ_cons]
     intro hh
     have hh:c=48:=by simpa using hh
     apply hz
     rw[hh]
     have:decide (1<((spanN digB (48::r):Nat):Int))=true:=by rw[decide_eq_true_eq];rw[hh]at h5;omega
     rw[this];simp
   ·rw[← e]
    unfold greB at hg
    simp only[Bool.or_eq_true,decide_eq_true_eq,not_or]at hg
    exact⟨by simpa using hg.1,by omega⟩
  split at h
  ·exact rxG_ok f _ _ _ T (snoc _ (tk2 _ _)) h
  split at h
  ·exact rxG_ok f _ _ _ T (snoc _ (tk2 _ _)) h
  ·simp at h
theorem rx_good {t:List UInt8} {T:List Tok} (hl:t.length≤4096) (h:rxT t=(T,0,0)):∀k∈T.map kt,tkG k:=by
 have hr:rxT t=rxG t.length 0 t []:=by
  unfold rxT
  rw[if_neg (by simp;omega),rxF_G _ _ _ _ (Nat.zero_le _)];rfl
 rw[hr]at h
 intro k hk
 obtain⟨x,hx,rfl⟩:=List.mem_map.1 hk
 exact rxG_ok _ _ _ _ _ (fun t ht=>by cases ht) h x hx
theorem dgF_tt:∀(d:List UInt8) (n:Int),(dgF d n true).2=true
 |[],n=>rfl
 |b::r,n=>by
  simp only[dgF]
  split
  ·split
   ·exact dgF_tt r _
   ·exact dgF_tt r _
  ·rfl
theorem dig_nat {b:UInt8} (h:digB (b.toNat:Int)=true):∃k,k<10∧b=UInt8.ofNat (48+k):=by
 simp only[digB,Bool.and_eq_true,decide_eq_true_eq]at h
 refine⟨b.toNat-48,by omega,?_⟩
 apply UInt8.toNat_inj.1
 rw[show 48+(b.toNat-48)=b.toNat by omega]
 simp
theorem numW_ok:∀(d:List UInt8) (n:Int),(∀c∈d,digB (c.toNat:Int)=true)→0≤n→n≤9223372036854775807→(dgF d n false).2=false→(dgF d n false).1≤9223372036854775807→numW d n=(dgF d n false).1∧0≤(dgF d n false).1
 |[],n,_,h0,_,_,_=>⟨rfl,h0⟩
 |b::d,n,hd,h0,h1,h2,h3=>by
  have hb:=hd b (by simp)
  have hd':∀c∈d,digB (c.toNat:Int)=true:=fun c hc=>hd c (List.mem_cons_of_mem _ hc)
  obtain⟨k,hk,rfl⟩:=dig_nat hb
  obtain⟨a1,a2,a3,a4⟩:=dg_u8 hk
  have e0:∀g,dgF (UInt8.ofNat (48+k)::d) n g=dgF d (dgF [UInt8.ofNat (48+k)] n g).1 (dgF [UInt8.ofNat (48+k)] n g).2:=fun g=>dgF_dg [UInt8.ofNat (48+k)] d n g (fun c hc=>by rw[List.mem_singleton.1 hc];exact hb)
  by_cases hg:922337203685477580<n
  ·exfalso
   have:dgF [UInt8.ofNat (48+k)] n false=(n,true):=by
    simp only[dgF];rw[if_pos hb,if_pos (by simp;omega)]
   rw[e0,this,dgF_tt]at h2;cases h2
  ·have e1:=dgF_1 (g:=false) hb a4 hk h0 (by omega:n≤922337203685477580)
   rw[e0,e1]at h2 h3 ⊢
   dsimp only at h2 h3 ⊢
   have e2:numW (UInt8.ofNat (48+k)::d) n=numW d (numW [UInt8.ofNat (48+k)] n):=numW_app [UInt8.ofNat (48+k)] d n
   cases d with
   |nil=>
    simp only[dgF]at h2 h3 ⊢
    rw[e2,numW_1 a3 hk h0 h3]
    exact⟨rfl,by omega⟩
   |cons c d=>
    have h4:10*n+(k:Int)≤922337203685477580:=by
     apply Decidable.byContradiction
     intro h5
     have hc:=hd' c (by simp)
     have:dgF (c::d) (10*n+(k:Int)) false=dgF d (10*n+(k:Int)) true:=by
      simp only[dgF];rw[if_pos hc,if_pos (by simp;omega)]
     rw[this,dgF_tt]at h2;cases h2
    rw[e2,numW_1 a3 hk h0 (by omega)]
    exact numW_ok (c::d) _ hd' (by omega) (by omega) h2 h3
theorem numO.num {d:List UInt8} (h:numO d):0≤numW d 0∧numW d 0≤9223372036854775807:=by
 obtain⟨a,b⟩:=numW_ok d 0 h.dg (Int.le_refl _) (by decide) h.g.1 h.g.2
 have:=h.g.2
 omega
theorem Cx.re:∀c:Cx,c.wf→c.nm→(∀t∈c.tk,tkG t)→reE c.v
 | .num d,_,_,h=>by
  have:=((h _ (List.mem_singleton.2 rfl)).2 rfl).num
  exact .inl ⟨rfl,this.1,this.2,rfl,rfl,rfl⟩
 | .var s,hw,hn,h=>.inr (.inl ⟨rfl,rfl,⟨⟨hw,hn⟩,((h _ (List.mem_singleton.2 rfl)).1 rfl).1⟩,rfl,rfl⟩)
 | .neg u,hw,hn,h=>.inr (.inr (.inl ⟨rfl,rfl,rfl,u.re hw.2 hn (fun t ht=>h t (List.mem_cons_of_mem _ ht)),rfl⟩))
 | .par u,hw,hn,h=>u.re hw hn (fun t ht=>h t (List.mem_cons_of_mem _ (List.mem_append_left _ ht)))
 | .bin o a b,hw,hn,h=>by
  have ha:∀t∈a.tk,tkG t:=fun t ht=>h t (List.mem_append_left _ ht)
  have hb:∀t∈b.tk,tkG t:=fun t ht=>h t (List.mem_append_right _ (List.mem_cons_of_mem _ ht))
  rcases hw with⟨ho,_,w1,w2⟩|⟨ho,_,_,w1,w2⟩
  ·exact .inr (.inr (.inr ⟨by omega,rfl,rfl,a.re w1 hn.1 ha,b.re w2 hn.2 hb⟩))
  ·exact .inr (.inr (.inr ⟨by omega,rfl,rfl,a.re w1 hn.1 ha,b.re w2 hn.2 hb⟩))
theorem canE_b3 {k:Int} (hk:k=2∨k=3) (a b:Ex):canE (.mk k 0 [] a b)= .bin k (canE a) (prn (suB b) (canE b))∧suB (.mk k 0 [] a b)=true:=by
 rcases hk with rfl|rfl<;>exact⟨rfl,rfl⟩
theorem canE_b4 {k:Int} (hk:k=4∨k=5∨k=6) (a b:Ex):canE (.mk k 0 [] a b)= .bin k (prn (suB a) (canE a)) (prn (suB b||prdB b) (canE b))∧suB (.mk k 0 [] a b)=false∧prdB (.mk k 0 [] a b)=true:=by
 rcases hk with rfl|rfl|rfl<;>exact⟨rfl,rfl,rfl⟩
theorem canE_fs:∀c:Cx,c.wf→c.fs≠(2,[40])→(canE c.v).fs≠(2,[40])∧(suB c.v=true→∃o a b,c= .bin o a b∧o≤3)
 | .num d,_,_=>⟨by show ((1:Int),_)≠((2:Int),_);simp,fun h=>by cases h⟩
 | .var s,_,_=>⟨by show ((0:Int),_)≠((2:Int),_);simp,fun h=>by cases h⟩
 | .neg u,_,_=>⟨by show ((2:Int),[45])≠((2:Int),[(40:UInt8)]);decide,fun h=>by cases h⟩
 | .par u,_,h=>absurd rfl h
 | .bin o a b,hw,h=>by
  rcases hw with⟨ho,l1,w1,w2⟩|⟨ho,l1,l2,w1,w2⟩
  ·have:=canE_fs a w1 h
   refine⟨?_,fun _=>⟨o,a,b,rfl,by omega⟩⟩
   show (canE (.mk o 0 [] a.v b.v)).fs≠_
   rw[(canE_b3 ho _ _).1];exact this.1
  ·obtain⟨g1,g2⟩:=canE_fs a w1 h
   obtain⟨e1,e2,e3⟩:=canE_b4 ho a.v b.v
   refine⟨?_,fun hs=>?_⟩
   ·show (canE (.mk o 0 [] a.v b.v)).fs≠_
    rw[e1]
    cases hs:suB a.v with
    |false=>exact g1
    |true=>
     obtain⟨o',x,y,rfl,h3⟩:=g2 hs
     simp only[Cx.lv]at l1
     rw[if_pos h3]at l1;omega
   ·have hs:suB (.mk o 0 [] a.v b.v)=true:=hs
    rw[e2]at hs;cases hs
theorem canE_dp:∀c:Cx,c.wf→(canE c.v).dp≤c.dp∧(c.lv≤1→(prn (suB c.v) (canE c.v)).dp≤c.dp)∧(c.lv=0→(prn (suB c.v||prdB c.v) (canE c.v)).dp≤c.dp)
 | .num d,_=>⟨Nat.le_refl _,fun _=>Nat.le_refl _,fun _=>Nat.le_refl _⟩
 | .var s,_=>⟨Nat.le_refl _,fun _=>Nat.le_refl _,fun _=>Nat.le_refl _⟩
 | .neg u,hw=>by
  have h:=(canE_dp u hw.2).2.2 hw.1
  have e:(canE (Cx.neg u).v).dp=(prn (suB u.v||prdB u.v) (canE u.v)).dp+1:=rfl
  have h2:(canE (Cx.neg u).v).dp≤(Cx.neg u).dp:=by rw[e];show _≤u.dp+1;omega
  exact⟨h2,fun _=>h2,fun _=>h2⟩
 | .par u,hw=>by
  obtain⟨h1,_,_⟩:=canE_dp u hw
  have p1:=prn_dp (suB u.v) (canE u.v)
  have p2:=prn_dp (suB u.v||prdB u.v) (canE u.v)
  show (canE u.v).dp≤u.dp+1∧(_→(prn (suB u.v) (canE u.v)).dp≤u.dp+1)∧(_→(prn (suB u.v||prdB u.v) (canE u.v)).dp≤u.dp+1)
  exact⟨by omega,fun _=>by omega,fun _=>by omega⟩
 | .bin o a b,hw=>by
  show (canE (.mk o 0 [] a.v b.v)).dp≤max a.dp b.dp∧(_→(prn (suB (.mk o 0 [] a.v b.v)) (canE (.mk o 0 [] a.v b.v))).dp≤max a.dp b.dp)∧(_→_)
  rcases hw with⟨ho,l1,w1,w2⟩|⟨ho,l1,l2,w1,w2⟩
  ·obtain⟨e1,e2⟩:=canE_b3 ho a.v b.v
   have h1:=(canE_dp a w1).1
   have h2:=(canE_dp b w2).2.1 l1
   have hl:(Cx.bin o a b).lv=2:=by simp only[Cx.lv];rw[if_pos (by omega)]
   refine⟨by rw[e1];simp only[Cx.dp];omega,fun h=>?_,fun h=>?_⟩
   ·rw[hl]at h;omega
   ·rw[hl]at h;omega
  ·obtain⟨e1,e2,e3⟩:=canE_b4 ho a.v b.v
   have h1:=(canE_dp a w1).2.1 l1
   have h2:=(canE_dp b w2).2.2 l2
   have hl:(Cx.bin o a b).lv=1:=by simp only[Cx.lv];rw[if_neg (by omega)]
   have h3:(canE (.mk o 0 [] a.v b.v)).dp≤max a.dp b.dp:=by rw[e1];simp only[Cx.dp];omega
   refine⟨h3,fun h=>by rw[e2];exact h3,fun h=>?_⟩
   rw[hl]at h;omega
theorem Cc.re:∀c:Cc,c.wf→(∀t∈c.tk,tkG t)→reC c.v
 | .cmp o a b,hw,h=>by
  obtain⟨ho,wa,wb,na,nb,hf⟩:=hw
  exact .inl ⟨by omega,by omega,a.re wa na (fun t ht=>h t (List.mem_append_left _ ht)),b.re wb nb (fun t ht=>h t (List.mem_append_right _ (List.mem_cons_of_mem _ ht))),(canE_fs a wa hf).1,rfl,rfl,rfl⟩
 | .nul s ne,hw,h=>by
  have hn:nmP s:=⟨hw,((h (0,s) (List.mem_cons_self ..)).1 rfl).1⟩
  have h9:reC (.mk 9 .nil .nil .nil .nil s):=.inr (.inr (.inr ⟨rfl,rfl,rfl,rfl,rfl,hn⟩))
  cases ne with
  |true=>exact .inr (.inr (.inl ⟨rfl,rfl,rfl,rfl,h9,rfl⟩))
  |false=>exact h9
 | .not u,hw,h=>.inr (.inr (.inl ⟨rfl,rfl,rfl,rfl,u.re hw.1 (fun t ht=>h t (List.mem_cons_of_mem _ ht)),rfl⟩))
 | .par u,hw,h=>u.re hw (fun t ht=>h t (List.mem_cons_of_mem _ (List.mem_append_left _ ht)))
 | .and a b,hw,h=>.inr (.inl ⟨.inl rfl,rfl,rfl,rfl,a.re hw.1 (fun t ht=>h t (List.mem_append_left _ ht)),b.re hw.2.1 (fun t ht=>h t (List.mem_append_right _ (List.mem_cons_of_mem _ ht)))⟩)
 | .or a b,hw,h=>.inr (.inl ⟨.inr rfl,rfl,rfl,rfl,a.re hw.1 (fun t ht=>h t (List.mem_append_left _ ht)),b.re hw.2.1 (fun t ht=>h t (List.mem_append_right _ (List.mem_cons_of_mem _ ht)))⟩)
theorem canC_dp:∀c:Cc,c.wf→(canC c.v).dp≤2*c.dp∧(c.lv≤1→(pcn (isB 7 c.v) (canC c.v)).dp≤2*c.dp)∧(c.lv=0→(pcn (isB 7 c.v||isB 6 c.v) (canC c.v)).dp≤2*c.dp)
 | .cmp o a b,hw=>by
  obtain⟨ho,wa,wb,na,nb,hf⟩:=hw
  have h1:=(canE_dp a wa).1
  have h2:=(canE_dp b wb).1
  have e:canC (Cc.cmp o a b).v= .cmp (Int.toNat (o:Int)) (canE a.v) (canE b.v):=by
   show canC (.mk (o:Int) a.v b.v .nil .nil [])=_
   simp only[canC]
   rw[if_neg (by omega),if_neg (by omega),if_neg (by omega),if_neg (by omega)]
  have e7:isB 7 (Cc.cmp o a b).v=false:=by show ((o:Int)==7)=false;rw[beq_eq_false_iff_ne];omega
  have e6:isB 6 (Cc.cmp o a b).v=false:=by show ((o:Int)==6)=false;rw[beq_eq_false_iff_ne];omega
  rw[e7,e6,e]
  have h3:(Cc.cmp (Int.toNat (o:Int)) (canE a.v) (canE b.v)).dp≤2*(Cc.cmp o a b).dp:=by simp only[Cc.dp];omega
  exact⟨h3,fun _=>h3,fun _=>h3⟩
 | .nul s ne,_=>by
  have h:canC (Cc.nul s ne).v= .nul s ne∧isB 7 (Cc.nul s ne).v=false∧isB 6 (Cc.nul s ne).v=false:=by cases ne<;>exact⟨rfl,rfl,rfl⟩
  rw[h.1,h.2.1,h.2.2]
  exact⟨Nat.zero_le _,fun _=>Nat.zero_le _,fun _=>Nat.zero_le _⟩
 | .not u,hw=>by
  obtain⟨h1,_,_⟩:=canC_dp u hw.1
  have p:=pcn_dp (!isB 8 u.v) (canC u.v)
  have h3:(canC (Cc.not u).v).dp≤2*(Cc.not u).dp:=by
   show (if isB 9 u.v=true then Cc.nul u.v.nm true else Cc.not (pcn (!isB 8 u.v) (canC u.v))).dp≤2*(u.dp+1)
   split
   ·exact Nat.zero_le _
   ·simp only[Cc.dp];omega
  exact⟨h3,fun _=>h3,fun _=>h3⟩
 | .par u,hw=>by
  obtain⟨h1,_,_⟩:=canC_dp u hw
  have p1:=pcn_dp (isB 7 u.v) (canC u.v)
  have p2:=pcn_dp (isB 7 u.v||isB 6 u.v) (canC u.v)
  show (canC u.v).dp≤2*(u.dp+1)∧(_→(pcn (isB 7 u.v) (canC u.v)).dp≤2*(u.dp+1))∧(_→(pcn (isB 7 u.v||isB 6 u.v) (canC u.v)).dp≤2*(u.dp+1))
  exact⟨by omega,fun _=>by omega,fun _=>by omega⟩
 | .and a b,hw=>by
  obtain⟨wa,wb,la,lb⟩:=hw
  have h1:=(canC_dp a wa).2.1 la
  have h2:=(canC_dp b wb).2.2 lb
  have h3:(canC (Cc.and a b).v).dp≤2*(Cc.and a b).dp:=by
   show (Cc.and (pcn (isB 7 a.v) (canC a.v)) (pcn (isB 7 b.v||isB 6 b.v) (canC b.v))).dp≤_
   simp only[Cc.dp];omega
  exact⟨h3,fun _=>h3,fun h=>absurd h (by show ¬(1:Nat)=0;decide)⟩
 | .or a b,hw=>by
  obtain⟨wa,wb,lb⟩:=hw
  have h1:=(canC_dp a wa).1
  have h2:=(canC_dp b wb).2.1 lb
  have h3:(canC (Cc.or a b).v).dp≤2*(Cc.or a b).dp:=by
   show (Cc.or (canC a.v) (pcn (isB 7 b.v) (canC b.v))).dp≤_
   simp only[Cc.dp];omega
  exact⟨h3,fun h=>absurd h (by show ¬(2:Nat)≤1;decide),fun h=>absurd h (by show ¬(2:Nat)=0;decide)⟩
end Go.Proofs.YtbiepiggmagfcaaGreatDoor
