/- Sums as they are told: their tokens, and that they are read as what was told. No conditions but those in each statement. -/
import Derived.Test.YtbiepiggmagfcaaGreatDoorMc2
import Derived.Test.YtbiepiggmagfcaaGreatDoorPx1
import Derived.Test.YtbiepiggmagfcaaGreatDoorPs6
import Derived.Test.YtbiepiggmagfcaaGreatDoorPx2
set_option linter.unusedVariables false
set_option linter.unusedSimpArgs false
namespace Go.Proofs.YtbiepiggmagfcaaGreatDoor
open Go Go.Sy Go.RowKit
theorem dg_u8 {k:Nat} (h:k<10):((UInt8.ofNat (48+k)).toNat:Int)=48+(k:Int)∧digB ((UInt8.ofNat (48+k)).toNat:Int)=true∧w64i (IntKind.u8.wrap (((UInt8.ofNat (48+k)).toNat:Int)-48))=(k:Int)∧IntKind.u8.wrap (((UInt8.ofNat (48+k)).toNat:Int)-48)=(k:Int):=by
 have:∀k,k<10→((UInt8.ofNat (48+k)).toNat:Int)=48+(k:Int)∧digB ((UInt8.ofNat (48+k)).toNat:Int)=true∧w64i (IntKind.u8.wrap (((UInt8.ofNat (48+k)).toNat:Int)-48))=(k:Int)∧IntKind.u8.wrap (((UInt8.ofNat (48+k)).toNat:Int)-48)=(k:Int):=by decide
 exact this k h
theorem numW_app:∀(d e:List UInt8) (n:Int),numW (d++e) n=numW e (numW d n)
 |[],e,n=>rfl
 |b::d,e,n=>by
  show numW (d++e) _=_
  rw[numW_app d e];rfl
structure decO (u:Nat) (d:List UInt8):Prop where
 dg:∀c∈d,digB (c.toNat:Int)=true
 n:d≠[]
 z:d.length=1∨d.head?≠some 48
 g:dgF d 0 false=((u:Int),false)
 w:numW d 0=(u:Int)
theorem dgF_dg:∀(d e:List UInt8) (n:Int) (g:Bool),(∀c∈d,digB (c.toNat:Int)=true)→dgF (d++e) n g=dgF e (dgF d n g).1 (dgF d n g).2
 |[],e,n,g,_=>rfl
 |b::d,e,n,g,h=>by
  have hb:=h b (by simp)
  have hd:∀c∈d,digB (c.toNat:Int)=true:=fun c hc=>h c (List.mem_cons_of_mem _ hc)
  simp only[List.cons_append,dgF]
  rw[if_pos hb,if_pos hb]
  split
  ·exact dgF_dg d e _ _ hd
  ·exact dgF_dg d e _ _ hd
theorem dgF_1 {b:UInt8} {n:Int} {g:Bool} {k:Nat} (hb:digB (b.toNat:Int)=true) (hk:IntKind.u8.wrap ((b.toNat:Int)-48)=(k:Int)) (h9:k<10) (h0:0≤n) (h:n≤922337203685477580):dgF [b] n g=(10*n+k,g):=by
 simp only[dgF]
 rw[if_pos hb,if_neg (by simp;omega),hk]
 have e1:IntKind.u64.wrap (10*n)=10*n:=wrap_u64 (by omega) (by omega)
 have e2:IntKind.u64.wrap (k:Int)=(k:Int):=wrap_u64 (by omega) (by omega)
 rw[e1,e2,wrap_u64 (by omega) (by omega)]
theorem numW_1 {b:UInt8} {n:Int} {k:Nat} (hk:w64i (IntKind.u8.wrap ((b.toNat:Int)-48))=(k:Int)) (h9:k<10) (h0:0≤n) (h:10*n+k≤9223372036854775807):numW [b] n=10*n+k:=by
 simp only[numW]
 rw[hk]
 have e1:w64i (10*n)=10*n:=wrap_i64 (by omega) (by omega)
 rw[e1]
 exact wrap_i64 (by omega) (by omega)
theorem dec_ok:∀(f u:Nat),u<10 ^ (f+1)→u≤9223372036854775807→decO u (Lib.decDigits u)∧(0<u→(Lib.decDigits u).head?≠some 48)
 |f,u,hf,hu=>by
  by_cases h:u<10
  ·rw[dec_lt h]
   obtain⟨a,b,c,e⟩:=dg_u8 h
   refine⟨⟨fun x hx=>?_,by simp,.inl rfl,?_,?_⟩,fun hp hh=>?_⟩
   ·rw[List.mem_singleton.1 hx];exact b
   ·rw[dgF_1 b e h (by decide) (by decide)];simp
   ·rw[numW_1 c h (by decide) (by omega)];simp
   ·have hh:UInt8.ofNat (48+u)=48:=by simpa using hh
    rw[hh]at a
    have:((48:UInt8).toNat:Int)=48:=rfl
    omega
  ·cases f with
   |zero=>omega
   |succ f=>
    have h1:u / 10<10 ^ (f+1):=by rw[Nat.div_lt_iff_lt_mul (by decide)];rw[Nat.pow_succ]at hf;exact hf
    obtain⟨o,z⟩:=dec_ok f (u / 10) h1 (by omega)
    have hk:u % 10<10:=Nat.mod_lt _ (by decide)
    obtain⟨a,b,c,e⟩:=dg_u8 hk
    have hz:(Lib.decDigits (u / 10)).head?≠some 48:=z (by omega)
    have hne:=o.n
    rw[dec_ge h]
    have hh:(Lib.decDigits (u / 10)++[UInt8.ofNat (48+u % 10)]).head?≠some 48:=by
     cases e:Lib.decDigits (u / 10) with
     |nil=>exact absurd e hne
     |cons x l=>rw[e]at hz;exact hz
    refine⟨⟨fun x hx=>?_,by simp,.inr hh,?_,?_⟩,fun _=>hh⟩
    ·rcases List.mem_append.1 hx with hx|hx
     ·exact o.dg x hx
     ·rw[List.mem_singleton.1 hx];exact b
    ·rw[dgF_dg _ _ _ _ o.dg,o.g,dgF_1 b e hk (by simp only;omega) (by simp only;omega)]
     simp only[Prod.mk.injEq,and_true];omega
    ·rw[numW_app,o.w,numW_1 c hk (by omega) (by omega)];omega
theorem dec_nu {n:Int} (h0:0≤n) (h1:n≤9223372036854775807):numO (itT n)∧dh (itT n)∧numW (itT n) 0=n:=by
 obtain⟨u,rfl⟩:∃u:Nat,n=(u:Int):=⟨n.toNat,by omega⟩
 have o:=(dec_ok 18 u (by omega) (by omega)).1
 have e:itT (u:Int)=Lib.decDigits u:=itoa_nat u
 rw[e]
 refine⟨⟨o.dg,o.n,o.z,by rw[o.g],by rw[o.g];simp only;omega⟩,?_,o.w⟩
 cases hd:Lib.decDigits u with
 |nil=>exact absurd hd o.n
 |cons c r=>exact⟨c,r,rfl,o.dg c (by rw[hd];simp)⟩
def nmP (s:List UInt8):Prop:=nmO s∧Lz s [(0,s)]
def reE:Ex→Prop
 | .nil=>False
 | .mk k n s a b=>(k=0∧0≤n∧n≤9223372036854775807∧s=[]∧a= .nil∧b= .nil)∨(k=1∧n=0∧nmP s∧a= .nil∧b= .nil)∨(k=7∧n=0∧s=[]∧reE a∧b= .nil)∨((k=2∨k=3∨k=4∨k=5∨k=6)∧n=0∧s=[]∧reE a∧reE b)
def prn (p:Bool) (c:Cx):Cx:=if p=true then .par c else c
def canE:Ex→Cx
 | .nil=>.var []
 | .mk k n s a b=>
  if k=0 then .num (itT n)
  else if k=1 then .var s
  else if k=7 then .neg (prn (suB a||prdB a) (canE a))
  else if k≤3 then .bin k (canE a) (prn (suB b) (canE b))
  else .bin k (prn (suB a) (canE a)) (prn (suB b||prdB b) (canE b))
theorem prn_v (p:Bool) (c:Cx):(prn p c).v=c.v:=by cases p<;>rfl
theorem prn_wf {p:Bool} {c:Cx} (h:c.wf):(prn p c).wf:=by cases p<;>exact h
theorem prn_nm {p:Bool} {c:Cx} (h:c.nm):(prn p c).nm:=by cases p<;>exact h
theorem prn_dp (p:Bool) (c:Cx):(prn p c).dp≤c.dp+1:=by cases p<;>simp[prn,Cx.dp]
theorem prn_z {p:Bool} {t:List UInt8} {c:Cx} (h:Lz t c.tk):Lz (enT p t) (prn p c).tk:=by
 cases p with
 |false=>exact h
 |true=>exact(((lw_sg 40).wapp h).app (lw_sg 41).w (pS_c 41 [])).cast rfl (by simp[prn,Cx.tk])
structure caQ (e:Ex):Prop where
 v:(canE e).v=e
 w:(canE e).wf
 n:(canE e).nm
 l:(canE e).lv=if suB e=true then 2 else if prdB e=true then 1 else 0
 d:(canE e).dp≤2*e.dp
 z:Lz (exT e) (canE e).tk
 t:exT e≠[]
theorem lv_prn1 {e:Ex} (q:caQ e):(prn (suB e) (canE e)).lv≤1:=by
 have:=q.l
 cases h:suB e with
 |true=>exact Nat.zero_le _
 |false=>
  rw[h]at this
  show (canE e).lv≤1
  rw[this,if_neg (by decide)];split<;>decide
theorem lv_prn0 {e:Ex} (q:caQ e):(prn (suB e||prdB e) (canE e)).lv=0:=by
 have:=q.l
 cases h:suB e with
 |true=>rfl
 |false=>
  cases h2:prdB e with
  |true=>rfl
  |false=>
   rw[h,h2]at this
   exact this
theorem enT_ne {p:Bool} {t:List UInt8} (h:t≠[]):enT p t≠[]:=by
 cases p with
 |false=>exact h
 |true=>simp[enT]
theorem op_w {o:Int} (h:o=2∨o=3∨o=4∨o=5∨o=6):Lw ([32]++opK o++[32]) [(2,opK o)]∧∃q,[32]++opK o++[32]=32::q:=by
 rcases h with rfl|rfl|rfl|rfl|rfl
 ·exact⟨lw_o2,_,rfl⟩
 ·exact⟨lw_o3,_,rfl⟩
 ·exact⟨lw_o4,_,rfl⟩
 ·exact⟨lw_o5,_,rfl⟩
 ·exact⟨lw_o6,_,rfl⟩
theorem bin_z {o:Int} (h:o=2∨o=3∨o=4∨o=5∨o=6) {t u:List UInt8} {a b:Cx} (ha:Lz t a.tk) (hb:Lz u b.tk):Lz ((t++([32]++opK o++[32]))++u) (Cx.bin o a b).tk:=by
 obtain⟨h1,q,h2⟩:=op_w h
 refine((ha.app h1 ⟨32,q,h2,by decide⟩).wapp hb).cast rfl ?_
 simp[Cx.tk]
theorem ca_q:∀e:Ex,reE e→caQ e
 | .nil,h=>h.elim
 | .mk k n s a b,h=>by
  rcases h with⟨rfl,h0,h1,rfl,rfl,rfl⟩|⟨rfl,rfl,hs,rfl,rfl⟩|⟨rfl,rfl,rfl,ha,rfl⟩|⟨hk,rfl,rfl,ha,hb⟩
  ·obtain⟨n1,n2,n3⟩:=dec_nu h0 h1
   have e:canE (.mk 0 n [] .nil .nil)= .num (itT n):=rfl
   refine⟨by rw[e];show Ex.mk 0 (numW (itT n) 0) [] .nil .nil=_;rw[n3],by rw[e];trivial,by rw[e];exact n2,by rw[e];rfl,by rw[e];exact Nat.zero_le _,by rw[e];exact lz_nu n1,n1.n⟩
  ·have e:canE (.mk 1 0 s .nil .nil)= .var s:=rfl
   obtain⟨⟨h1,h2⟩,h3⟩:=hs
   refine⟨by rw[e];rfl,by rw[e];exact h1,by rw[e];exact h2,by rw[e];rfl,by rw[e];exact Nat.zero_le _,by rw[e];exact h3,?_⟩
   obtain⟨c,r,h4,_⟩:=h2
   show s≠[]
   rw[h4];simp
  ·have q:=ca_q a ha
   have e:canE (.mk 7 0 [] a .nil)= .neg (prn (suB a||prdB a) (canE a)):=rfl
   have l0:=lv_prn0 q
   have d:=prn_dp (suB a||prdB a) (canE a)
   have d2:=q.d
   refine⟨by rw[e];show Ex.mk 7 0 [] (prn _ _).v .nil=_;rw[prn_v,q.v],by rw[e];exact⟨l0,prn_wf q.w⟩,by rw[e];exact prn_nm q.n,by rw[e];rfl,by rw[e];simp only[Cx.dp,Ex.dp];omega,?_,by show [45]++_≠[];simp⟩
   rw[e]
   exact((lw_sg 45).wapp (prn_z q.z)).cast rfl rfl
  ·have qa:=ca_q a ha
   have qb:=ca_q b hb
   have da:=qa.d
   have db:=qb.d
   have d1:=prn_dp (suB b) (canE b)
   have d2:=prn_dp (suB a) (canE a)
   have d3:=prn_dp (suB b||prdB b) (canE b)
   by_cases h3:k≤3
   ·have e:canE (.mk k 0 [] a b)= .bin k (canE a) (prn (suB b) (canE b)):=by
     show (if k=0 then _ else if k=1 then _ else if k=7 then _ else if k≤3 then _ else _)=_
     rw[if_neg (by omega),if_neg (by omega),if_neg (by omega),if_pos h3]
    have hk2:k=2∨k=3:=by omega
    have es:suB (.mk k 0 [] a b)=true:=by rcases hk2 with rfl|rfl<;>rfl
    have et:exT (.mk k 0 [] a b)=(exT a++([32]++opK k++[32]))++enT (suB b) (exT b):=by rcases hk2 with rfl|rfl<;>rfl
    refine⟨by rw[e];show Ex.mk k 0 [] (canE a).v (prn _ _).v=_;rw[prn_v,qa.v,qb.v],by rw[e];exact .inl ⟨hk2,lv_prn1 qb,qa.w,prn_wf qb.w⟩,by rw[e];exact⟨qa.n,prn_nm qb.n⟩,by rw[e,es];simp only[Cx.lv];rw[if_pos h3];rfl,by rw[e];simp only[Cx.dp,Ex.dp];omega,by rw[e,et];exact bin_z hk qa.z (prn_z qb.z),?_⟩
    rw[et]
    have:=qa.t
    simp[this]
   ·have e:canE (.mk k 0 [] a b)= .bin k (prn (suB a) (canE a)) (prn (suB b||prdB b) (canE b)):=by
     show (if k=0 then _ else if k=1 then _ else if k=7 then _ else if k≤3 then _ else _)=_
     rw[if_neg (by omega),if_neg (by omega),if_neg (by omega),if_neg h3]
    have hk2:k=4∨k=5∨k=6:=by omega
    have es:suB (.mk k 0 [] a b)=false∧prdB (.mk k 0 [] a b)=true:=by rcases hk2 with rfl|rfl|rfl<;>exact⟨rfl,rfl⟩
    have et:exT (.mk k 0 [] a b)=(enT (suB a) (exT a)++([32]++opK k++[32]))++enT (suB b||prdB b) (exT b):=by rcases hk2 with rfl|rfl|rfl<;>rfl
    refine⟨by rw[e];show Ex.mk k 0 [] (prn _ _).v (prn _ _).v=_;rw[prn_v,prn_v,qa.v,qb.v],by rw[e];exact .inr ⟨hk2,lv_prn1 qa,lv_prn0 qb,prn_wf qa.w,prn_wf qb.w⟩,by rw[e];exact⟨prn_nm qa.n,prn_nm qb.n⟩,by rw[e,es.1,es.2];simp only[Cx.lv];rw[if_neg h3];rfl,by rw[e];simp only[Cx.dp,Ex.dp];omega,by rw[e,et];exact bin_z hk (prn_z qa.z) (prn_z qb.z),?_⟩
    rw[et]
    have:=enT_ne (p:=suB a) qa.t
    simp[this]
end Go.Proofs.YtbiepiggmagfcaaGreatDoor
namespace Go.Proofs.YtbiepiggmagfcaaGreatDoor
open Go Go.Sy Go.RowKit
def reC:Cd→Prop
 | .nil=>False
 | .mk k a b p q s=>(0≤k∧k≤5∧reE a∧reE b∧(canE a).fs≠(2,[40])∧p= .nil∧q= .nil∧s=[])∨((k=6∨k=7)∧a= .nil∧b= .nil∧s=[]∧reC p∧reC q)∨(k=8∧a= .nil∧b= .nil∧s=[]∧reC p∧q= .nil)∨(k=9∧a= .nil∧b= .nil∧p= .nil∧q= .nil∧nmP s)
def pcn (p:Bool) (c:Cc):Cc:=if p=true then .par c else c
def canC:Cd→Cc
 | .nil=>.nul [] false
 | .mk k a b p q s=>
  if k=6 then .and (pcn (isB 7 p) (canC p)) (pcn (isB 7 q||isB 6 q) (canC q))
  else if k=7 then .or (canC p) (pcn (isB 7 q) (canC q))
  else if k=8 then (if isB 9 p=true then .nul p.nm true else .not (pcn (!isB 8 p) (canC p)))
  else if k=9 then .nul s false
  else .cmp k.toNat (canE a) (canE b)
theorem pcn_v (p:Bool) (c:Cc):(pcn p c).v=c.v:=by cases p<;>rfl
theorem pcn_wf {p:Bool} {c:Cc} (h:c.wf):(pcn p c).wf:=by cases p<;>exact h
theorem pcn_dp (p:Bool) (c:Cc):(pcn p c).dp≤c.dp+1:=by cases p<;>simp[pcn,Cc.dp]
theorem pcn_z {p:Bool} {t:List UInt8} {c:Cc} (h:Lz t c.tk):Lz (enT p t) (pcn p c).tk:=by
 cases p with
 |false=>exact h
 |true=>exact(((lw_sg 40).wapp h).app (lw_sg 41).w (pS_c 41 [])).cast rfl (by simp[pcn,Cc.tk])
structure caC (c:Cd):Prop where
 v:(canC c).v=c
 w:(canC c).wf
 l:(canC c).lv=if isB 7 c=true then 2 else if isB 6 c=true then 1 else 0
 d:(canC c).dp≤2*c.dp
 z:Lz (coT c) (canC c).tk
 t:coT c≠[]
theorem lw_cp {o:Nat} (h:o<6):Lw ([32]++cpT o++[32]) [(2,cpT o)]∧∃q,[32]++cpT o++[32]=32::q:=by
 match o,h with
 |0,_=>exact⟨lw_e0,_,rfl⟩
 |1,_=>exact⟨lw_e1,_,rfl⟩
 |2,_=>exact⟨Lp.of (n:=3) (fun i=>[⟨2,[60],((i+1:Nat):Int)⟩]) (by decide) (fun _=>rfl) (fun f i r out=>by kernel_rfl),_,rfl⟩
 |3,_=>exact⟨Lp.of (n:=3) (fun i=>[⟨2,[60,61],((i+1:Nat):Int)⟩]) (by decide) (fun _=>rfl) (fun f i r out=>by kernel_rfl),_,rfl⟩
 |4,_=>exact⟨Lp.of (n:=3) (fun i=>[⟨2,[62],((i+1:Nat):Int)⟩]) (by decide) (fun _=>rfl) (fun f i r out=>by kernel_rfl),_,rfl⟩
 |5,_=>exact⟨Lp.of (n:=3) (fun i=>[⟨2,[62,61],((i+1:Nat):Int)⟩]) (by decide) (fun _=>rfl) (fun f i r out=>by kernel_rfl),_,rfl⟩
theorem lw_oo:Lw [32,124,124,32] [(2,[124,124])]:=Lp.of (n:=3) (fun i=>[⟨2,[124,124],((i+1:Nat):Int)⟩]) (by decide) (fun _=>rfl) (fun f i r out=>by kernel_rfl)
theorem cmp_t {k:Int} (h0:0≤k) (h5:k≤5) (a b:Ex) (p q:Cd) (s:List UInt8):coT (.mk k a b p q s)=(exT a++([32]++cpT k.toNat++[32]))++exT b:=by
 have:k=0∨k=1∨k=2∨k=3∨k=4∨k=5:=by omega
 rcases this with rfl|rfl|rfl|rfl|rfl|rfl<;>rfl
theorem lz_nl:Lz kNul [(0,kNul)]:=(idn (by decide) (by decide)).2
theorem lz_nm1 {s:List UInt8} (h:nmP s) (ne:Bool):Lz (s++((if ne=true then [32,33,61,32] else [32,61,61,32])++kNul)) (Cc.nul s ne).tk:=by
 cases ne with
 |true=>exact(h.2.app (lw_e1.wapp lz_nl) ⟨32,_,rfl,by decide⟩).cast rfl rfl
 |false=>exact(h.2.app (lw_e0.wapp lz_nl) ⟨32,_,rfl,by decide⟩).cast rfl rfl
theorem lvc1 {c:Cd} (q:caC c):(pcn (isB 7 c) (canC c)).lv≤1:=by
 have:=q.l
 cases h:isB 7 c with
 |true=>exact Nat.zero_le _
 |false=>
  rw[h]at this
  show (canC c).lv≤1
  rw[this,if_neg (by decide)];split<;>decide
theorem lvc0 {c:Cd} (q:caC c):(pcn (isB 7 c||isB 6 c) (canC c)).lv=0:=by
 have:=q.l
 cases h:isB 7 c with
 |true=>rfl
 |false=>
  cases h2:isB 6 c with
  |true=>rfl
  |false=>
   rw[h,h2]at this
   exact this
theorem lvc8 {c:Cd} (q:caC c):(pcn (!isB 8 c) (canC c)).lv=0:=by
 cases h:isB 8 c with
 |false=>rfl
 |true=>
  have l:=q.l
  have:isB 7 c=false∧isB 6 c=false:=by
   cases c with
   |nil=>exact⟨rfl,rfl⟩
   |mk k a b p q s=>
    have e:k=8:=eq_of_beq h
    rw[e];exact⟨rfl,rfl⟩
  rw[this.1,this.2]at l
  exact l
theorem reC9 {p:Cd} (hp:reC p) (h9:isB 9 p=true):∃s,p= .mk 9 .nil .nil .nil .nil s∧nmP s:=by
 cases p with
 |nil=>cases h9
 |mk k a b p' q' s=>
  have hk:k=9:=eq_of_beq h9
  subst hk
  rcases hp with⟨_,h5,_⟩|⟨hk,_⟩|⟨hk,_⟩|⟨_,rfl,rfl,rfl,rfl,hs⟩
  ·exact absurd h5 (by decide)
  ·exact absurd hk (by decide)
  ·exact absurd hk (by decide)
  ·exact⟨s,rfl,hs⟩
theorem pE_let {c:UInt8} (h:letB (c.toNat:Int)=true):pE c=true:=by
 unfold pE
 cases e:c==61 with
 |false=>rfl
 |true=>
  have:c=61:=eq_of_beq e
  subst this
  revert h;decide
theorem en8_s {p:Cd} (hp:reC p):∃c q,enT (!isB 8 p) (coT p)=c::q∧pE c=true:=by
 cases h8:isB 8 p with
 |false=>exact⟨40,_,rfl,by decide⟩
 |true=>
  cases p with
  |nil=>cases h8
  |mk k a b p' q' s=>
   have hk:k=8:=eq_of_beq h8
   subst hk
   have hp':reC p':=by
    rcases hp with⟨_,h5,_⟩|⟨hk,_⟩|⟨_,_,_,_,hp,_⟩|⟨hk,_⟩
    ·exact absurd h5 (by decide)
    ·exact absurd hk (by decide)
    ·exact hp
    ·exact absurd hk (by decide)
   show ∃c q,coT (.mk 8 a b p' q' s)=c::q∧pE c=true
   rw[co8]
   cases h9:isB 9 p' with
   |true=>
    obtain⟨t,rfl,ht⟩:=reC9 hp' h9
    obtain⟨c,r,e,hc⟩:=ht.1.2
    rw[if_pos rfl]
    exact⟨c,r++[32,33,61,32,110,117,108,108],by show t++_=_;rw[e];rfl,pE_let hc⟩
   |false=>
    rw[if_neg (by decide)]
    exact⟨33,_,rfl,by decide⟩
theorem ca_c:∀c:Cd,reC c→caC c
 | .nil,h=>h.elim
 | .mk k a b p q s,h=>by
  rcases h with⟨h0,h5,ha,hb,hf,rfl,rfl,rfl⟩|⟨hk,rfl,rfl,rfl,hp,hq⟩|⟨rfl,rfl,rfl,rfl,hp,rfl⟩|⟨rfl,rfl,rfl,rfl,rfl,hs⟩
  ·have qa:=ca_q a ha
   have qb:=ca_q b hb
   have da:=qa.d
   have db:=qb.d
   have e:canC (.mk k a b .nil .nil [])= .cmp k.toNat (canE a) (canE b):=by
    simp only[canC]
    rw[if_neg (by omega),if_neg (by omega),if_neg (by omega),if_neg (by omega)]
   have hk:k.toNat<6:=by omega
   obtain⟨l1,q,l2⟩:=lw_cp hk
   have e7:isB 7 (.mk k a b .nil .nil [])=false:=by show (k==7)=false;rw[beq_eq_false_iff_ne];omega
   have e6:isB 6 (.mk k a b .nil .nil [])=false:=by show (k==6)=false;rw[beq_eq_false_iff_ne];omega
   refine⟨?_,?_,?_,?_,?_,?_⟩
   ·rw[e];show Cd.mk (k.toNat:Int) (canE a).v (canE b).v .nil .nil []=_
    rw[qa.v,qb.v,Int.toNat_of_nonneg h0]
   ·rw[e];exact⟨hk,qa.w,qb.w,qa.n,qb.n,hf⟩
   ·rw[e,e7,e6];rfl
   ·rw[e];simp only[Cc.dp,Cd.dp];omega
   ·rw[e,cmp_t h0 h5]
    exact((qa.z.app l1 ⟨32,q,l2,by decide⟩).wapp qb.z).cast rfl (by simp[Cc.tk])
   ·rw[cmp_t h0 h5]
    have:=qa.t
    simp[this]
  ·have qp:=ca_c p hp
   have qq:=ca_c q hq
   have dp:=qp.d
   have dq:=qq.d
   rcases hk with rfl|rfl
   ·have e:canC (.mk 6 .nil .nil p q [])= .and (pcn (isB 7 p) (canC p)) (pcn (isB 7 q||isB 6 q) (canC q)):=rfl
    have d1:=pcn_dp (isB 7 p) (canC p)
    have d2:=pcn_dp (isB 7 q||isB 6 q) (canC q)
    refine⟨?_,?_,?_,?_,?_,?_⟩
    ·rw[e];show Cd.mk 6 .nil .nil (pcn _ _).v (pcn _ _).v []=_
     rw[pcn_v,pcn_v,qp.v,qq.v]
    ·rw[e];exact⟨pcn_wf qp.w,pcn_wf qq.w,lvc1 qp,lvc0 qq⟩
    ·rw[e];rfl
    ·rw[e];simp only[Cc.dp,Cd.dp];omega
    ·rw[e,co6]
     exact(((pcn_z qp.z).app lw_aa ⟨32,_,rfl,by decide⟩).wapp (pcn_z qq.z)).cast rfl (by simp[Cc.tk])
    ·rw[co6];have:=enT_ne (p:=isB 7 p) qp.t;simp[this]
   ·have e:canC (.mk 7 .nil .nil p q [])= .or (canC p) (pcn (isB 7 q) (canC q)):=rfl
    have d2:=pcn_dp (isB 7 q) (canC q)
    refine⟨?_,?_,?_,?_,?_,?_⟩
    ·rw[e];show Cd.mk 7 .nil .nil (canC p).v (pcn _ _).v []=_
     rw[pcn_v,qp.v,qq.v]
    ·rw[e];exact⟨qp.w,pcn_wf qq.w,lvc1 qq⟩
    ·rw[e];rfl
    ·rw[e];simp only[Cc.dp,Cd.dp];omega
    ·rw[e,co7]
     exact((qp.z.app lw_oo ⟨32,_,rfl,by decide⟩).wapp (pcn_z qq.z)).cast rfl (by simp[Cc.tk])
    ·rw[co7];have:=qp.t;simp[this]
  ·have qp:=ca_c p hp
   have dp:=qp.d
   cases h9:isB 9 p with
   |true=>
    have e:canC (.mk 8 .nil .nil p .nil [])= .nul p.nm true:=by
     show (if isB 9 p=true then Cc.nul p.nm true else _)=_
     rw[if_pos h9]
    obtain⟨s,rfl,hs⟩:=reC9 hp h9
    refine⟨?_,?_,?_,?_,?_,?_⟩
    ·rw[e];rfl
    ·rw[e];exact hs.1
    ·rw[e];rfl
    ·rw[e];exact Nat.zero_le _
    ·rw[e,co8,if_pos h9];exact lz_nm1 hs true
    ·rw[co8,if_pos h9];simp
   |false=>
    have e:canC (.mk 8 .nil .nil p .nil [])= .not (pcn (!isB 8 p) (canC p)):=by
     show (if isB 9 p=true then Cc.nul p.nm true else _)=_
     rw[if_neg (by rw[h9];decide)]
    have d2:=pcn_dp (!isB 8 p) (canC p)
    refine⟨?_,?_,?_,?_,?_,?_⟩
    ·rw[e];show Cd.mk 8 .nil .nil (pcn _ _).v .nil []=_
     rw[pcn_v,qp.v]
    ·rw[e];exact⟨pcn_wf qp.w,lvc8 qp⟩
    ·rw[e];rfl
    ·rw[e];simp only[Cc.dp,Cd.dp];omega
    ·rw[e,co8,if_neg (by rw[h9];decide)]
     exact(Lp.app (lp_eq 33) (pcn_z qp.z) (en8_s hp)).cast rfl rfl
    ·rw[co8,if_neg (by rw[h9];decide)];simp
  ·have e:canC (.mk 9 .nil .nil .nil .nil s)= .nul s false:=rfl
   refine⟨?_,?_,?_,?_,?_,?_⟩
   ·rw[e];rfl
   ·rw[e];exact hs.1
   ·rw[e];rfl
   ·rw[e];exact Nat.zero_le _
   ·rw[e,co9];exact lz_nm1 hs false
   ·rw[co9];simp
end Go.Proofs.YtbiepiggmagfcaaGreatDoor
