/- The document's decimal text of a number. Conditions: the number is of 64 bits. -/
import Derived.Test.YtbiepiggmagfcaaDoorPi1
import Derived.Test.YtbiepiggmagfcaaDoorMc2
import Derived.Test.YtbiepiggmagfcaaDoorPx1
set_option linter.unusedVariables false
set_option linter.unusedSimpArgs false
namespace Go.Proofs.YtbiepiggmagfcaaDoor
open Go Go.Sy Go.RowKit
theorem dec_lt {u:Nat} (h:u<10):Lib.decDigits u=[UInt8.ofNat (48+u)]:=by rw[Lib.decDigits,dif_pos h]
theorem dec_ge {u:Nat} (h:¬u<10):Lib.decDigits u=Lib.decDigits (u / 10)++[UInt8.ofNat (48+u % 10)]:=by rw[Lib.decDigits,dif_neg h]
theorem dec_len:∀(f u:Nat),u<10 ^ (f+1)→(Lib.decDigits u).length≤f+1
 |0,u,h=>by rw[dec_lt (by simpa using h)];simp
 |f+1,u,h=>by
  by_cases hu:u<10
  ·rw[dec_lt hu];simp
  ·rw[dec_ge hu]
   have:=dec_len f (u / 10) (by rw[Nat.div_lt_iff_lt_mul (by decide)];rw[Nat.pow_succ]at h;exact h)
   simp;omega
theorem itoa_nat (u:Nat):Lib.itoa (u:Int)=Lib.decDigits u:=by unfold Lib.itoa;rw[if_neg (by omega)];rfl
theorem itoa_len (f:Nat) (n:Int) (h:n.natAbs<10 ^ (f+1)):(Lib.itoa n).length≤f+2:=by
 unfold Lib.itoa
 split
 ·have:=dec_len f n.natAbs h;simp;omega
 ·have:=dec_len f n.toNat (by omega);omega
theorem itoa_w64 {n:Int} (h:w64 n):(Lib.itoa n).length≤22:=itoa_len 20 n (Nat.lt_of_le_of_lt (show n.natAbs≤9223372036854775808 by obtain⟨h1,h2⟩:=h;omega) (by decide))
end Go.Proofs.YtbiepiggmagfcaaDoor
namespace Go.Proofs.YtbiepiggmagfcaaDoor
open Go Go.Sy Go.RowKit
theorem dg_u8 {k:Nat} (h:k<10):((UInt8.ofNat (48+k)).toNat:Int)=48+(k:Int)∧digB ((UInt8.ofNat (48+k)).toNat:Int)=true∧w64i (IntKind.u8.wrap (((UInt8.ofNat (48+k)).toNat:Int)-48))=(k:Int)∧IntKind.u8.wrap (((UInt8.ofNat (48+k)).toNat:Int)-48)=(k:Int):=by
 have:∀k,k<10→((UInt8.ofNat (48+k)).toNat:Int)=48+(k:Int)∧digB ((UInt8.ofNat (48+k)).toNat:Int)=true∧w64i (IntKind.u8.wrap (((UInt8.ofNat (48+k)).toNat:Int)-48))=(k:Int)∧IntKind.u8.wrap (((UInt8.ofNat (48+k)).toNat:Int)-48)=(k:Int):=by decide
 exact this k h
theorem numW_app:∀(d e:List UInt8) (n:Int),numW (d++e) n=numW e (numW d n)
 |[],e,n=>rfl
 |b::d,e,n=>by
  show numW (d++e) _=_
  rw[numW_app d e];rfl
structure decO (u:Nat) (d:List UInt8):Prop where
 dg:∀c∈d,digB (c.toNat:Int)=true
 n:d≠[]
 z:d.length=1∨d.head?≠some 48
 g:dgF d 0 false=((u:Int),false)
 w:numW d 0=(u:Int)
theorem dgF_dg:∀(d e:List UInt8) (n:Int) (g:Bool),(∀c∈d,digB (c.toNat:Int)=true)→dgF (d++e) n g=dgF e (dgF d n g).1 (dgF d n g).2
 |[],e,n,g,_=>rfl
 |b::d,e,n,g,h=>by
  have hb:=h b (by simp)
  have hd:∀c∈d,digB (c.toNat:Int)=true:=fun c hc=>h c (List.mem_cons_of_mem _ hc)
  simp only[List.cons_append,dgF]
  rw[if_pos hb,if_pos hb]
  split
  ·exact dgF_dg d e _ _ hd
  ·exact dgF_dg d e _ _ hd
theorem dgF_1 {b:UInt8} {n:Int} {g:Bool} {k:Nat} (hb:digB (b.toNat:Int)=true) (hk:IntKind.u8.wrap ((b.toNat:Int)-48)=(k:Int)) (h9:k<10) (h0:0≤n) (h:n≤922337203685477580):dgF [b] n g=(10*n+k,g):=by
 simp only[dgF]
 rw[if_pos hb,if_neg (by simp;omega),hk]
 have e1:IntKind.u64.wrap (10*n)=10*n:=wrap_u64 (by omega) (by omega)
 have e2:IntKind.u64.wrap (k:Int)=(k:Int):=wrap_u64 (by omega) (by omega)
 rw[e1,e2,wrap_u64 (by omega) (by omega)]
theorem numW_1 {b:UInt8} {n:Int} {k:Nat} (hk:w64i (IntKind.u8.wrap ((b.toNat:Int)-48))=(k:Int)) (h9:k<10) (h0:0≤n) (h:10*n+k≤9223372036854775807):numW [b] n=10*n+k:=by
 simp only[numW]
 rw[hk]
 have e1:w64i (10*n)=10*n:=wrap_i64 (by omega) (by omega)
 rw[e1]
 exact wrap_i64 (by omega) (by omega)
theorem dec_ok:∀(f u:Nat),u<10 ^ (f+1)→u≤9223372036854775807→decO u (Lib.decDigits u)∧(0<u→(Lib.decDigits u).head?≠some 48)
 |f,u,hf,hu=>by
  by_cases h:u<10
  ·rw[dec_lt h]
   obtain⟨a,b,c,e⟩:=dg_u8 h
   refine⟨⟨fun x hx=>?_,by simp,.inl rfl,?_,?_⟩,fun hp hh=>?_⟩
   ·rw[List.mem_singleton.1 hx];exact b
   ·rw[dgF_1 b e h (by decide) (by decide)];simp
   ·rw[numW_1 c h (by decide) (by omega)];simp
   ·have hh:UInt8.ofNat (48+u)=48:=by simpa using hh
    rw[hh]at a
    have:((48:UInt8).toNat:Int)=48:=rfl
    omega
  ·cases f with
   |zero=>omega
   |succ f=>
    have h1:u / 10<10 ^ (f+1):=by rw[Nat.div_lt_iff_lt_mul (by decide)];rw[Nat.pow_succ]at hf;exact hf
    obtain⟨o,z⟩:=dec_ok f (u / 10) h1 (by omega)
    have hk:u % 10<10:=Nat.mod_lt _ (by decide)
    obtain⟨a,b,c,e⟩:=dg_u8 hk
    have hz:(Lib.decDigits (u / 10)).head?≠some 48:=z (by omega)
    have hne:=o.n
    rw[dec_ge h]
    have hh:(Lib.decDigits (u / 10)++[UInt8.ofNat (48+u % 10)]).head?≠some 48:=by
     cases e:Lib.decDigits (u / 10) with
     |nil=>exact absurd e hne
     |cons x l=>rw[e]at hz;exact hz
    refine⟨⟨fun x hx=>?_,by simp,.inr hh,?_,?_⟩,fun _=>hh⟩
    ·rcases List.mem_append.1 hx with hx|hx
     ·exact o.dg x hx
     ·rw[List.mem_singleton.1 hx];exact b
    ·rw[dgF_dg _ _ _ _ o.dg,o.g,dgF_1 b e hk (by simp only;omega) (by simp only;omega)]
     simp only[Prod.mk.injEq,and_true];omega
    ·rw[numW_app,o.w,numW_1 c hk (by omega) (by omega)];omega
theorem dec_nu {n:Int} (h0:0≤n) (h1:n≤9223372036854775807):numO (itT n)∧dh (itT n)∧numW (itT n) 0=n:=by
 obtain⟨u,rfl⟩:∃u:Nat,n=(u:Int):=⟨n.toNat,by omega⟩
 have o:=(dec_ok 18 u (by omega) (by omega)).1
 have e:itT (u:Int)=Lib.decDigits u:=itoa_nat u
 rw[e]
 refine⟨⟨o.dg,o.n,o.z,by rw[o.g],by rw[o.g];simp only;omega⟩,?_,o.w⟩
 cases hd:Lib.decDigits u with
 |nil=>exact absurd hd o.n
 |cons c r=>exact⟨c,r,rfl,o.dg c (by rw[hd];simp)⟩
def nmP (s:List UInt8):Prop:=nmO s∧Lz s [(0,s)]
def reE:Ex→Prop
 | .nil=>False
 | .mk k n s a b=>(k=0∧0≤n∧n≤9223372036854775807∧s=[]∧a= .nil∧b= .nil)∨(k=1∧n=0∧nmP s∧a= .nil∧b= .nil)∨(k=7∧n=0∧s=[]∧reE a∧b= .nil)∨((k=2∨k=3∨k=4∨k=5∨k=6)∧n=0∧s=[]∧reE a∧reE b)
def prn (p:Bool) (c:Cx):Cx:=if p=true then .par c else c
def canE:Ex→Cx
 | .nil=>.var []
 | .mk k n s a b=>
  if k=0 then .num (itT n)
  else if k=1 then .var s
  else if k=7 then .neg (prn (suB a||prdB a) (canE a))
  else if k≤3 then .bin k (canE a) (prn (suB b) (canE b))
  else .bin k (prn (suB a) (canE a)) (prn (suB b||prdB b) (canE b))
theorem prn_v (p:Bool) (c:Cx):(prn p c).v=c.v:=by cases p<;>rfl
theorem prn_wf {p:Bool} {c:Cx} (h:c.wf):(prn p c).wf:=by cases p<;>exact h
theorem prn_nm {p:Bool} {c:Cx} (h:c.nm):(prn p c).nm:=by cases p<;>exact h
theorem prn_dp (p:Bool) (c:Cx):(prn p c).dp≤c.dp+1:=by cases p<;>simp[prn,Cx.dp]
theorem prn_z {p:Bool} {t:List UInt8} {c:Cx} (h:Lz t c.tk):Lz (enT p t) (prn p c).tk:=by
 cases p with
 |false=>exact h
 |true=>exact(((lw_sg 40).wapp h).app (lw_sg 41).w (pS_c 41 [])).cast rfl (by simp[prn,Cx.tk])
structure caQ (e:Ex):Prop where
 v:(canE e).v=e
 w:(canE e).wf
 n:(canE e).nm
 l:(canE e).lv=if suB e=true then 2 else if prdB e=true then 1 else 0
 d:(canE e).dp≤2*e.dp
 z:Lz (exT e) (canE e).tk
 t:exT e≠[]
theorem lv_prn1 {e:Ex} (q:caQ e):(prn (suB e) (canE e)).lv≤1:=by
 have:=q.l
 cases h:suB e with
 |true=>exact Nat.zero_le _
 |false=>
  rw[h]at this
  show (canE e).lv≤1
  rw[this,if_neg (by decide)];split<;>decide
theorem lv_prn0 {e:Ex} (q:caQ e):(prn (suB e||prdB e) (canE e)).lv=0:=by
 have:=q.l
 cases h:suB e with
 |true=>rfl
 |false=>
  cases h2:prdB e with
  |true=>rfl
  |false=>
   rw[h,h2]at this
   exact this
theorem enT_ne {p:Bool} {t:List UInt8} (h:t≠[]):enT p t≠[]:=by
 cases p with
 |false=>exact h
 |true=>simp[enT]
theorem op_w {o:Int} (h:o=2∨o=3∨o=4∨o=5∨o=6):Lw ([32]++opK o++[32]) [(2,opK o)]∧∃q,[32]++opK o++[32]=32::q:=by
 rcases h with rfl|rfl|rfl|rfl|rfl
 ·exact⟨lw_o2,_,rfl⟩
 ·exact⟨lw_o3,_,rfl⟩
 ·exact⟨lw_o4,_,rfl⟩
 ·exact⟨lw_o5,_,rfl⟩
 ·exact⟨lw_o6,_,rfl⟩
theorem bin_z {o:Int} (h:o=2∨o=3∨o=4∨o=5∨o=6) {t u:List UInt8} {a b:Cx} (ha:Lz t a.tk) (hb:Lz u b.tk):Lz ((t++([32]++opK o++[32]))++u) (Cx.bin o a b).tk:=by
 obtain⟨h1,q,h2⟩:=op_w h
 refine((ha.app h1 ⟨32,q,h2,by decide⟩).wapp hb).cast rfl ?_
 simp[Cx.tk]
theorem ca_q:∀e:Ex,reE e→caQ e
 | .nil,h=>h.elim
 | .mk k n s a b,h=>by
  rcases h with⟨rfl,h0,h1,rfl,rfl,rfl⟩|⟨rfl,rfl,hs,rfl,rfl⟩|⟨rfl,rfl,rfl,ha,rfl⟩|⟨hk,rfl,rfl,ha,hb⟩
  ·obtain⟨n1,n2,n3⟩:=dec_nu h0 h1
   have e:canE (.mk 0 n [] .nil .nil)= .num (itT n):=rfl
   refine⟨by rw[e];show Ex.mk 0 (numW (itT n) 0) [] .nil .nil=_;rw[n3],by rw[e];trivial,by rw[e];exact n2,by rw[e];rfl,by rw[e];exact Nat.zero_le _,by rw[e];exact lz_nu n1,n1.n⟩
  ·have e:canE (.mk 1 0 s .nil .nil)= .var s:=rfl
   obtain⟨⟨h1,h2⟩,h3⟩:=hs
   refine⟨by rw[e];rfl,by rw[e];exact h1,by rw[e];exact h2,by rw[e];rfl,by rw[e];exact Nat.zero_le _,by rw[e];exact h3,?_⟩
   obtain⟨c,r,h4,_⟩:=h2
   show s≠[]
   rw[h4];simp
  ·have q:=ca_q a ha
   have e:canE (.mk 7 0 [] a .nil)= .neg (prn (suB a||prdB a) (canE a)):=rfl
   have l0:=lv_prn0 q
   have d:=prn_dp (suB a||prdB a) (canE a)
   have d2:=q.d
   refine⟨by rw[e];show Ex.mk 7 0 [] (prn _ _).v .nil=_;rw[prn_v,q.v],by rw[e];exact⟨l0,prn_wf q.w⟩,by rw[e];exact prn_nm q.n,by rw[e];rfl,by rw[e];simp only[Cx.dp,Ex.dp];omega,?_,by show [45]++_≠[];simp⟩
   rw[e]
   exact((lw_sg 45).wapp (prn_z q.z)).cast rfl rfl
  ·have qa:=ca_q a ha
   have qb:=ca_q b hb
   have da:=qa.d
   have db:=qb.d
   have d1:=prn_dp (suB b) (canE b)
   have d2:=prn_dp (suB a) (canE a)
   have d3:=prn_dp (suB b||prdB b) (canE b)
   by_cases h3:k≤3
   ·have e:canE (.mk k 0 [] a b)= .bin k (canE a) (prn (suB b) (canE b)):=by
     show (if k=0 then _ else if k=1 then _ else if k=7 then _ else if k≤3 then _ else _)=_
     rw[if_neg (by omega),if_neg (by omega),if_neg (by omega),if_pos h3]
    have hk2:k=2∨k=3:=by omega
    have es:suB (.mk k 0 [] a b)=true:=by rcases hk2 with rfl|rfl<;>rfl
    have et:exT (.mk k 0 [] a b)=(exT a++([32]++opK k++[32]))++enT (suB b) (exT b):=by rcases hk2 with rfl|rfl<;>rfl
    refine⟨by rw[e];show Ex.mk k 0 [] (canE a).v (prn _ _).v=_;rw[prn_v,qa.v,qb.v],by rw[e];exact .inl ⟨hk2,lv_prn1 qb,qa.w,prn_wf qb.w⟩,by rw[e];exact⟨qa.n,prn_nm qb.n⟩,by rw[e,es];simp only[Cx.lv];rw[if_pos h3];rfl,by rw[e];simp only[Cx.dp,Ex.dp];omega,by rw[e,et];exact bin_z hk qa.z (prn_z qb.z),?_⟩
    rw[et]
    have:=qa.t
    simp[this]
   ·have e:canE (.mk k 0 [] a b)= .bin k (prn (suB a) (canE a)) (prn (suB b||prdB b) (canE b)):=by
     show (if k=0 then _ else if k=1 then _ else if k=7 then _ else if k≤3 then _ else _)=_
     rw[if_neg (by omega),if_neg (by omega),if_neg (by omega),if_neg h3]
    have hk2:k=4∨k=5∨k=6:=by omega
    have es:suB (.mk k 0 [] a b)=false∧prdB (.mk k 0 [] a b)=true:=by rcases hk2 with rfl|rfl|rfl<;>exact⟨rfl,rfl⟩
    have et:exT (.mk k 0 [] a b)=(enT (suB a) (exT a)++([32]++opK k++[32]))++enT (suB b||prdB b) (exT b):=by rcases hk2 with rfl|rfl|rfl<;>rfl
    refine⟨by rw[e];show Ex.mk k 0 [] (prn _ _).v (prn _ _).v=_;rw[prn_v,prn_v,qa.v,qb.v],by rw[e];exact .inr ⟨hk2,lv_prn1 qa,lv_prn0 qb,prn_wf qa.w,prn_wf qb.w⟩,by rw[e];exact⟨prn_nm qa.n,prn_nm qb.n⟩,by rw[e,es.1,es.2];simp only[Cx.lv];rw[if_neg h3];rfl,by rw[e];simp only[Cx.dp,Ex.dp];omega,by rw[e,et];exact bin_z hk (prn_z qa.z) (prn_z qb.z),?_⟩
    rw[et]
    have:=enT_ne (p:=suB a) qa.t
    simp[this]
end Go.Proofs.YtbiepiggmagfcaaDoor
