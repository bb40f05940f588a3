/- strings.Builder: copyCheck and String as contracts over rows. Conditions: those of the contracts. -/
import Derived.Test.YtbiepiggmagfcaaGreatDoorGs
set_option linter.unusedVariables false
set_option linter.unusedSimpArgs false
namespace Go.Proofs.YtbiepiggmagfcaaGreatDoor
open Go Go.Sy Go.RowKit
theorem x5:Builder.Extra Tryz.prog Tryz.lays156_ren where
 toX72:=x72
 t5:=by kernel_rfl
 a5:=Tryz.isAgg5
 z5:=Tryz.sizeOf5
 v5:=Tryz.zeroValue5
 infoByte:=by kernel_rfl
 cellsByte:=by kernel_rfl
 sizeByte:=by kernel_rfl
 neB5:=by decide
theorem ZK {w:World} {M fz:Nat→Prop} {I:Nm} {lab:Lab} {T:TypeId} {m:Nat} {b:Bd} (hA:AtW (mX M fz I 1) w I lab fz (lkp (D3 0 [(tgN T (m+2),[b.c])])) w) :
  ∃bl cap arr,I 0=⟨some (bl,0),1,cap,m+2,false⟩∧lab bl=some [0]∧w.heap[bl]?=some (.cells arr T (0,0))∧cap*(m+2)≤arr.size∧1≤cap∧b.c.length=m+2∧
   ∀(j:Nat) (c:C),b.c[j]?=some c→∃y,arr[j]?=some y∧Den (hp w) fz lab I [0,0,j] c y:=by
 obtain⟨bl,off,cap,arr,T',hI,hlb,hh,hsz,hcap,hc⟩:=JR (k:=0) (u:=0) (z:=tgN T (m+2)) (es:=[b.c]) hA rfl (i:=0) (by simp)
 obtain⟨rfl,rfl⟩:=hsz.2 T rfl
 have h1:=hsz.1
 rw[Nq,Nat.zero_add]at h1
 obtain⟨g1,g2⟩:=hc 0 b.c rfl
 refine⟨bl,cap,arr,by rw[hI,Nq];rfl,hlb,hh,h1,hcap,by rw[g1,Nq],fun j c hj=>?_⟩
 obtain⟨y,y1,y2⟩:=g2 j c hj
 exact⟨y,by simpa using y1,y2⟩
theorem QS {w:World} {b:Nat} {arr:Array Value} {T:TypeId} {q:Nat×Nat} (h:w.heap[b]?=some (.cells arr T q)) (j:Nat):w.cell? ⟨b,j,none⟩=arr[j]?:=by
 simp only[World.cell?,h,Option.isSome_none,jB,if_false]
theorem wc {w:World} {fz:Nat→Prop} {I:Nm} {lab:Lab} {H:Hp} {bl cap s:Nat} {x:Value} (hI:I 0=⟨some (bl,0),1,cap,s,false⟩) (h:AU (hp w) fz lab I H (.one (.p 0 0 0)) x):x= .pointer (some ⟨bl,0,none⟩):=by
 have:=h.2
 cases this
 simp[NV.p,ptV,hI]
abbrev FO (T:TypeId) (m:Nat) (b:Bd):Prop:=b.r.length=m∧lieB T m
abbrev LU (T:TypeId) (m:Nat) (b:Bd):SV:=.tup []
abbrev FP (T:TypeId) (m:Nat) (b:Bd):List (Option MV):=[some (tgN T (m+2),[({ b with u:=true }:Bd).c])]
noncomputable abbrev FQ (T:TypeId) (m:Nat):ArgN ((Bd)×Unit):=(amB (rBd T m) am0)
abbrev PG (T:TypeId) (m:Nat):Prop:=Ft Tryz.prog 91 T0 B0 (FQ T m).args (FQ T m).mem (fun p:(Bd)×Unit=>FO T m p.1) (fun p:(Bd)×Unit=>LU T m p.1) (fun p:(Bd)×Unit=>FP T m p.1)
theorem Wi (T:TypeId) (m:Nat):∀p,(fun p:(Bd)×Unit=>FO T m p.1) p→BA ((FQ T m).mem p).length ((fun p:(Bd)×Unit=>FP T m p.1) p)=true:=by intro p _;rfl
theorem Wj (T:TypeId) (m:Nat):∀p,(fun p:(Bd)×Unit=>FO T m p.1) p→AQ ((fun p:(Bd)×Unit=>FP T m p.1) p).length ((fun p:(Bd)×Unit=>LU T m p.1) p)=true:=by intro p _;rfl
theorem Wk (T:TypeId) (m:Nat):∀p,(fun p:(Bd)×Unit=>FO T m p.1) p→∀(i:Nat) q,((fun p:(Bd)×Unit=>FP T m p.1) p)[i]?=some (some q)→∀r∈q.2,∀c∈r,cOK i c:=by intro p _;exact HI _ _
noncomputable def LV {X:Ctx} {w0:World} (T:TypeId) (m:Nat) (h:PG T m) (hG:BB X w0 T0 B0):Sy.Spec Tryz.prog X w0:=Gd 91 Tryz.call91 T0 B0 (FQ T m) (fun p:(Bd)×Unit=>FO T m p.1) (fun p:(Bd)×Unit=>LU T m p.1) (fun p:(Bd)×Unit=>FP T m p.1) (Wi T m) (Wj T m) (Wk T m) h hG
theorem we {h:Aj} {fz:Nat→Prop} {lab:Lab} {I:Nm} {π:List Nat} {y:Value} (d:Den h fz lab I π (.p 0 0 0) y):y=(I 0).p 0 0:=by cases d;rfl
theorem A2X {h:Aj} {fz:Nat→Prop} {lab:Lab} {I:Nm} {π:List Nat} {y:Value} (d:Den h fz lab I π (.v (.pointer none)) y):y= .pointer none:=by cases d;rfl
theorem Qz (T:TypeId) (m:Nat):PG T m:=by
 rintro ⟨b,_u⟩ w M I lab fz xs _ _ ⟨hm,hlie⟩ hA hl hx
 obtain⟨bl,cap,arr,hI,hlb,hh,hsz,hcap,hlen,hc⟩:=ZK hA
 obtain⟨x,rfl⟩:∃x,xs=[x]:=List.length_eq_one_iff.1 hl
 obtain rfl:=wc hI (hx 0 _ x rfl rfl)
 have hpos:0<arr.size:=by
  have:1*(m+2)≤cap*(m+2):=Nat.mul_le_mul_right _ hcap
  omega
 obtain⟨u,t,r⟩:=b
 obtain⟨y,y1,y2⟩:=hc 0 (adC u) rfl
 have hp0:(I 0).p 0 0= .pointer (some ⟨bl,0,none⟩):=by simp[NV.p,ptV,hI]
 cases u with
 |true=>
  obtain rfl:=we y2
  rw[hp0]at y1
  refine(Any.Builder_copyCheck_used { Tryz.lays156 with } x72 bl w (by rw[QS hh,y1])).mono ?_
  rintro e w' ⟨rfl,rfl⟩
  exact⟨_,I,lab,fz,rfl,hA,⟨#[],rfl,rfl,by simp⟩⟩
 |false=>
  obtain rfl:=A2X y2
  have hlies:=hlie.h arr.size (by
   have:1*(m+2)≤cap*(m+2):=Nat.mul_le_mul_right _ hcap
   omega)
  refine(jQ (ρ:=Tryz.lays156_ren) { Tryz.lays156 with } x72 bl w T arr.size (by rw[QS hh,y1]) (by simp[World.shape?,hh]) hpos hlies (by simp[World.frozen?,hh])).mono ?_
  rintro e w' ⟨rfl,rfl⟩
  obtain⟨arr',g1,g2,g3,g4,g5,g6,g7,g8⟩:=Ez bl T (0,0) [.pointer (some ⟨bl,0,none⟩)] 0 w arr hh (by show 0+1≤arr.size;omega)
  have hl2:(⟨true,t,r⟩:Bd).c.length=(tgN T (m+2)).length:=by
   rw[Nq]
   have:=hlen
   simp only[Bd.c,List.length_cons,List.length_map]at this ⊢
   exact this
  have hset:w.setCells bl 0 [.pointer (some ⟨bl,0,none⟩)]=w.setCell ⟨bl,0,none⟩ (.pointer (some ⟨bl,0,none⟩)):=rfl
  rw[hset]at g1 g4 g5 g6 g7 g8
  have hzb:∀b,fz b→hp (w.setCell ⟨bl,0,none⟩ (.pointer (some ⟨bl,0,none⟩))) b=hp w b:=fun b hb=>g8 b (by rintro rfl;have:=(hA.fzl b hb).2;rw[hlb]at this;cases this)
  obtain⟨I',lab',fz',p1,_,_⟩:=Rv (es':=[(⟨true,t,r⟩:Bd).c]) hA (k:=0) (u:=0) (z:=tgN T (m+2)) (es:=[(⟨false,t,r⟩:Bd).c]) rfl (b:=bl) (ρ0:=[]) hlb g4 g5 g6 g7 g8
   (.inr ⟨bl,0,cap,arr',T,by rw[hI];rfl,hlb,g1,⟨by rw[Nq,g2];omega,Rs (.inr rfl)⟩,hcap,fun i cs hi=>by
    cases i with
    |succ i=>simp at hi
    |zero=>
     simp only[List.getElem?_cons_zero,jS]at hi
     subst hi
     refine⟨hl2,fun j c hj=>?_⟩
     cases j with
     |zero=>
      simp only[Bd.c,List.getElem?_cons_zero,jS]at hj
      subst hj
      refine⟨.pointer (some ⟨bl,0,none⟩),by have:=g3 0;simpa using this,?_⟩
      rw[← hp0];exact .p _ _ _ _
     |succ j=>
      obtain⟨v,v1,v2⟩:=hc (j+1) c hj
      refine⟨v,?_,H8 (fun b hb=>⟨hb,hzb b hb⟩) v2 _ (fun b ρ hb=>⟨hb,g8 b ?_⟩) (fun _ _=>rfl)⟩
      ·have:=g3 (j+1)
       rw[if_neg (by simp)]at this
       rw[show 0+0*(tgN T (m+2)).length+(j+1)=j+1 by rw[Nat.zero_mul,Nat.zero_add],this]
       exact v1
      ·rintro rfl;rw[hlb]at hb;simp at hb⟩)
   (fun i j cs c hi hj n hn=>by
    cases i with
    |succ i=>simp at hi
    |zero=>
     simp only[List.getElem?_cons_zero,jS]at hi
     subst hi
     obtain⟨rfl,_⟩:=Po (SA _ c (List.mem_of_getElem? hj)) hn
     rfl) (.tuple #[])
  have hH:updH (lkp (D3 0 [(tgN T (m+2),[(⟨false,t,r⟩:Bd).c])])) [(0,.vec (0+1) (tgN T (m+2)) [(⟨true,t,r⟩:Bd).c])]=lkp [(0,.vec 1 (tgN T (m+2)) [(⟨true,t,r⟩:Bd).c])]:=by
   funext k
   simp only[updH,upd,D3,memO,List.map_cons,List.map_nil,lkp]
   split<;>rfl
  rw[show updH (lkp (D3 0 ((FQ T m).mem ((⟨false,t,r⟩:Bd),_u)))) [(0,.vec (0+1) (tgN T (m+2)) [(⟨true,t,r⟩:Bd).c])]=_ from hH]at p1
  refine⟨_,I',lab',fz',rfl,iz p1 (fun p hp'=>?_) (fun p hp'=>?_),⟨#[],rfl,rfl,by simp⟩⟩
  ·simp only[memO,chO,List.mem_singleton]at hp'
   subst hp'
   refine⟨⟨rfl,rfl,.inr rfl⟩,fun n hn=>?_⟩
   obtain⟨r0,hr,hn1⟩:=List.mem_flatMap.1 hn
   obtain⟨c0,hc0,hn2⟩:=List.mem_flatMap.1 hn1
   simp only[List.mem_singleton]at hr
   rw[hr]at hc0
   obtain⟨rfl,_⟩:=Po (SA _ c0 hc0) hn2
   rfl
  ·obtain⟨q1,q2,_⟩:=JV hp'
   have q3:p.1<0+1:=q2
   exact QA _ _ _ q1 (by simpa using q3)
abbrev Hl (T:TypeId) (m:Nat) (b:Bd):Prop:=b.t.length≤100000000000000
abbrev O4 (T:TypeId) (m:Nat) (b:Bd):SV:=.one (.v (.string (bs b.t)))
abbrev Hm (T:TypeId) (m:Nat) (b:Bd):List (Option MV):=[none]
noncomputable abbrev KS (T:TypeId) (m:Nat):ArgN ((Bd)×Unit):=(amB (rBd T m) am0)
abbrev SS (T:TypeId) (m:Nat):Prop:=Ft Tryz.prog 49 T0 B0 (KS T m).args (KS T m).mem (fun p:(Bd)×Unit=>Hl T m p.1) (fun p:(Bd)×Unit=>O4 T m p.1) (fun p:(Bd)×Unit=>Hm T m p.1)
theorem bZ (T:TypeId) (m:Nat):∀p,(fun p:(Bd)×Unit=>Hl T m p.1) p→BA ((KS T m).mem p).length ((fun p:(Bd)×Unit=>Hm T m p.1) p)=true:=by intro p _;rfl
theorem ba (T:TypeId) (m:Nat):∀p,(fun p:(Bd)×Unit=>Hl T m p.1) p→AQ ((fun p:(Bd)×Unit=>Hm T m p.1) p).length ((fun p:(Bd)×Unit=>O4 T m p.1) p)=true:=by intro p _;rfl
theorem bb (T:TypeId) (m:Nat):∀p,(fun p:(Bd)×Unit=>Hl T m p.1) p→∀(i:Nat) q,((fun p:(Bd)×Unit=>Hm T m p.1) p)[i]?=some (some q)→∀r∈q.2,∀c∈r,cOK i c:=by intro p _;exact og
noncomputable def CL {X:Ctx} {w0:World} (T:TypeId) (m:Nat) (h:SS T m) (hG:BB X w0 T0 B0):Sy.Spec Tryz.prog X w0:=Gd 49 Tryz.call49 T0 B0 (KS T m) (fun p:(Bd)×Unit=>Hl T m p.1) (fun p:(Bd)×Unit=>O4 T m p.1) (fun p:(Bd)×Unit=>Hm T m p.1) (bZ T m) (ba T m) (bb T m) h hG
theorem ME {w w':World} {M fz:Nat→Prop} {I:Nm} {lab:Lab} {H:Hp} (hA:AtW (mX M fz I 1) w I lab fz H w) {x:Value} {v:SV} (hv:∀(h:Aj) (H':Hp),AU h fz lab I H' v x) (ho:w'.os=w.os) (ht:w'.tape=w.tape) (hu:w'.output=w.output) (hs:w.heap.size≤w'.heap.size) (hb:∀b,b<w.heap.size→lab b=none→w'.heap[b]?=w.heap[b]?):Qy w M fz I 1 [none] v (.returned x) w':=by
 refine⟨x,I,lab,fz,rfl,⟨?_,?_,?_,?_,hA.fzo,⟨ho,ht,hu,hs,?_⟩,?_⟩,hv _ _⟩
 ·intro k ch hk
  simp only[memO,chO,lkp]at hk
  split at hk
  ·simp only[jS]at hk;subst hk;trivial
  ·cases hk
 ·intro k ch hk
  simp only[memO,chO,lkp]at hk
  split at hk
  ·simp only[jS]at hk;subst hk;intro n hn;cases hn
  ·cases hk
 ·intro b π hb;exact⟨Nat.lt_of_lt_of_le (hA.own b π hb).1 hs,(hA.own b π hb).2⟩
 ·intro b hb';exact⟨Nat.lt_of_lt_of_le (hA.fzl b hb').1 hs,(hA.fzl b hb').2⟩
 ·intro b h1 h2
  refine hb b h1 ?_
  cases hl:lab b with
  |none=>rfl
  |some π=>
   rcases (hA.own b π hl).2 with h|h
   ·omega
   ·exact absurd h h2
 ·intro p hp'
  obtain⟨q1,q2,q3⟩:=JV hp'
  have q4:p.1=0:=by omega
  refine⟨?_,q3.symm⟩
  rw[q4];rfl
theorem Ds (T:TypeId) (m:Nat):SS T m:=by
 rintro ⟨b,_u⟩ w M I lab fz xs _ _ hsm hA hl hx
 obtain⟨bl,cap,arr,hI,hlb,hh,hsz,hcap,hlen,hc⟩:=ZK hA
 obtain⟨x,rfl⟩:∃x,xs=[x]:=List.length_eq_one_iff.1 hl
 obtain rfl:=wc hI (hx 0 _ x rfl rfl)
 obtain⟨u,t,r⟩:=b
 obtain⟨y,y1,y2⟩:=hc 1 (.ov zB8 (t.map byK)) rfl
 have hbl:bl<w.heap.size:=(Array.getElem?_eq_some_iff.1 hh).1
 have c0:w.cell? ⟨bl,1,none⟩=some y:=by rw[QS hh,y1]
 have hsv:∀(h:Aj) (H':Hp) (s:ByteArray),AU h fz lab I H' (.one (.v (.string s))) (.string s):=fun _ _ _=>⟨rfl,.v [] _ rfl⟩
 have hsm':t.length≤100000000000000:=hsm
 rcases (EU y2).1 with⟨ht,hy⟩|⟨g,off,cap2,arr2,U,hy,hlg,hg,hsz2,hcap2,hcc⟩
 ·
  obtain rfl:t=[]:=by simpa using ht
  subst hy
  refine(RE (ρ:=Tryz.lays156_ren) { Tryz.lays156 with } x5 bl w w.drew none 0 0 (.pointer none) .empty c0 rfl (Any.unsafeString_none { Tryz.lays156 with } x5 w.drew none)).mono ?_
  rintro e w' ⟨rfl,rfl⟩
  exact ME hA (fun h H'=>hsv h H' (bs [])) rfl rfl rfl (Nat.le_refl _) (fun _ _ _=>rfl)
 ·obtain⟨rfl,rfl⟩:=hsz2.2 5 rfl
  rw[List.length_map]at hy hcap2
  have hg':w.heap[g]?=some (.cells arr2 5 (0,0)):=hg
  have hz1:cap2*1≤arr2.size:=by have:=hsz2.1;simpa [zB8] using this
  subst hy
  by_cases ht0:t=[]
  ·subst ht0
   by_cases hc2:cap2=0
   ·subst hc2
    refine(oR (ρ:=Tryz.lays156_ren) { Tryz.lays156 with } x5 bl g w 5 arr2.size hbl c0 (by simp[World.shape?,hg'])).mono ?_
    rintro e w' ⟨rfl,rfl⟩
    exact ME hA (fun h H'=>hsv h H' (bs [])) rfl rfl rfl (by show w.heap.size≤(w.heap.push _).size;simp) (fun b hb _=>by
     show (w.heap.push _)[b]?=w.heap[b]?
     rw[Array.getElem?_push,if_neg (by omega)])
   ·refine(RE (ρ:=Tryz.lays156_ren) { Tryz.lays156 with } x5 bl w w.drew (some ⟨g,0,none⟩) 0 cap2 (.pointer (some ⟨g,0,none⟩)) .empty c0 (Lib.run_unsafeSliceData_row _ _ _ _ _ _ hc2) (Any.unsafeString_none { Tryz.lays156 with } x5 w.drew _)).mono ?_
    rintro e w' ⟨rfl,rfl⟩
    exact ME hA (fun h H'=>hsv h H' (bs [])) rfl rfl rfl (Nat.le_refl _) (fun _ _ _=>rfl)
  ·have hpos:0<t.length:=List.length_pos_iff.2 ht0
   have hUS:=Lib.run_unsafeString_row (P:=Tryz.prog) w.drew (Tryz.lays156_ren.t 127) (Tryz.lays156_ren.t 3) (Tryz.lays156_ren.t 9) 5 Tryz.lays156.t127 x5.cellsByte g arr2.size (by show World.shape? w g=_;simp[World.shape?,hg']) t ht0 (by omega) (by omega) (fun j x hj=>by
    have hrow:(t.map byK)[j]?=some (byK x):=by simp[hj]
    obtain⟨_,hcc2⟩:=hcc j _ hrow
    obtain⟨v,v1,v2⟩:=hcc2 0 _ rfl
    cases v2
    rw[DN]
    show w.cell? _=_
    rw[QS hg',← v1]
    congr 1
    simp[zB8])
   refine(RE (ρ:=Tryz.lays156_ren) { Tryz.lays156 with } x5 bl w _ (some ⟨g,0,none⟩) t.length cap2 (.pointer (some ⟨g,0,none⟩)) ⟨t.toArray⟩ c0 (Lib.run_unsafeSliceData_row _ _ _ _ _ _ (by omega)) hUS).mono ?_
   rintro e w' ⟨rfl,rfl⟩
   have hfr:∀b,b≠g→(w.drew.freeze ⟨g,0,none⟩ t.length).heap[b]?=w.heap[b]?:=by
    intro b hb
    unfold World.freeze
    rw[if_neg (by omega)]
    show (w.heap.modify g _)[b]?=_
    rw[Array.getElem?_modify,if_neg (Ne.symm hb)]
   refine ME hA (fun h H'=>hsv h H' (bs t)) ?_ ?_ ?_ ?_ (fun b _ hn=>hfr b (by rintro rfl;rw[hlg]at hn;cases hn))
   ·unfold World.freeze;rw[if_neg (by omega)];rfl
   ·unfold World.freeze;rw[if_neg (by omega)];rfl
   ·unfold World.freeze;rw[if_neg (by omega)];rfl
   ·unfold World.freeze;rw[if_neg (by omega)]
    show _≤(w.heap.modify _ _).size
    simp
end Go.Proofs.YtbiepiggmagfcaaGreatDoor
