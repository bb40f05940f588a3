/- A report's lines are the document's. Conditions: no line holds a line's end; statements are numbered from 0 on. -/
import Derived.Test.YtbiepiggmagfcaaGreatDoorPr6
import Derived.Test.YtbiepiggmagfcaaGreatDoorPg3
import Derived.Test.YtbiepiggmagfcaaGreatDoorMc2
import Derived.Test.YtbiepiggmagfcaaGreatDoorPx1
import Derived.Test.YtbiepiggmagfcaaGreatDoorPs6
set_option linter.unusedVariables false
set_option linter.unusedSimpArgs false
open List (length_append length_cons length_nil append_assoc cons_append map_append)
namespace Go.Proofs.YtbiepiggmagfcaaGreatDoor
open Go Go.Sy Go.Shelf Go.RowKit
theorem ixB:∀(t r:List UInt8),10∉t→Lib.indexByte (t++10::r) 10=(t.length:Int)
 |[],r,_=>by simp[Lib.indexByte]
 |b::t,r,h=>by
  have hb:b≠10:=fun e=>h (by rw[e];simp)
  have ht:10∉t:=fun e=>h (List.mem_cons_of_mem _ e)
  have ih:=ixB t r ht
  have hb':(b==10)=false:=by rw[beq_eq_false_iff_ne];exact hb
  simp only[cons_append,Lib.indexByte,hb',ih,length_cons]
  have:(((t.length:Nat):Int) == -1)=false:=by rw[beq_eq_false_iff_ne];omega
  simp[this]<;>omega
theorem A86 (t r:List UInt8) (h:10∉t) (k:Nat):Lib.splitK [10] 0 (k+1) (t++10::r)=t::Lib.splitK [10] 0 k r:=by
 have h1:Lib.index (t++10::r) [10]=(t.length:Int):=by rw[Lib.index_one];exact ixB t r h
 simp only[Lib.splitK]
 have h2:(((t.length:Nat):Int) == -1)=false:=by rw[beq_eq_false_iff_ne];omega
 rw[h1,h2,if_neg (by decide),Int.toNat_natCast]
 congr 1
 ·simp
 ·congr 1
  have:t++10::r=(t++[10])++r:=by simp
  rw[this,show t.length+([10]:List UInt8).length=(t++[10]).length by simp,List.drop_left]
theorem aJ:∀l:List Ln,(∀x∈l,10∉x.t)→Eh (lnX l)=l.map (·.t)++[[]]
 |[],_=>by
  unfold Eh
  rw[AO,Lib.count_one]
  rfl
 |x::l,h=>by
  have hx:=h x (by simp)
  have ih:=aJ l (fun y hy=>h y (List.mem_cons_of_mem _ hy))
  have e:lnX (x::l)=x.t++10::lnX l:=by rw[EA];simp
  unfold Eh at ih ⊢
  rw[Lib.count_one]at ih ⊢
  have hc:(lnX (x::l)).count 10=(lnX l).count 10+1:=by
   rw[e,List.count_append,List.count_cons_self,List.count_eq_zero.2 hx];omega
  rw[hc,e,A86 _ _ hx,ih];rfl
mutual
theorem gz (d:Nat):∀s:Sm,(lnS d s).length=htS s
 | .mk k x y e f c ar th el no=>by
  have h1:=IA (d+1) th
  have h2:=IA (d+1) el
  simp only[lnS,htS,length_cons]
  split
  ·simp only[jL3,h1]
   split
   ·simp;omega
   ·simp only[length_cons,h2];omega
  split
  ·simp only[jL3,h1];omega
  ·rfl
theorem IA (d:Nat):∀l:List Sm,(lnB d l).length=htB l
 |[]=>by simp[lnB,htB]
 |s::l=>by
  simp only[lnB,htB,length_append,gz d s,IA d l]
end
theorem Qm (A:List Al) (N:List Nt) (t:List UInt8):mkT A N ⟨t,-1⟩=t:=by
 unfold mkT;rw[if_neg (by simp)]
theorem rn (A:List Al) (N:List Nt) (pre post:List (List UInt8)) (t:List UInt8) (no:Int) (h:0≤no):addL A N (pre++t::post) (pre.length:Int) no=pre++mkT A N ⟨t,no⟩::post:=by
 have h0:decide (0≤no)=true:=by simpa using h
 unfold addL mkT
 cases hz:(CP A N no).isEmpty with
 |true=>rw[if_pos rfl,if_neg (by simp[hz])]
 |false=>
  rw[if_neg (by decide),if_pos (by simp[h0,hz])]
  unfold extL
  rw[if_pos (by unfold inB;simp;omega),Int.toNat_natCast]
  have:(pre++t::post).getD pre.length []=t:=by simp[List.getD]
  rw[this,List.set_append_right _ _ (Nat.le_refl _),Nat.sub_self,List.set_cons_zero]
  simp
mutual
def noS:Sm→Prop
 | .mk _ _ _ _ _ _ _ th el no=>0≤no∧noB th∧noB el
def noB:List Sm→Prop
 |[]=>True
 |s::l=>noS s∧noB l
end
mutual
theorem yA (A:List Al) (N:List Nt) (d:Nat):∀(s:Sm) (pre post:List (List UInt8)),noS s→
  bkS A N s (pre++((lnS d s).map (·.t)++post)) (pre.length:Int)=pre++((lnS d s).map (mkT A N)++post)
 | .mk k x y e f c ar th el no,pre,post,hn=>by
  simp only[noS]at hn
  obtain⟨h0,h1,h2⟩:=hn
  simp only[bkS,lnS,List.map_cons,cons_append]
  rw[rn A N pre _ _ no h0]
  obtain⟨H,hH⟩:∃H,mkT A N (lnO d (hdL (.mk k x y e f c ar th el no)).flatten no)=H:=⟨_,rfl⟩
  have hH':mkT A N ⟨(lnO d (hdL (.mk k x y e f c ar th el no)).flatten no).t,no⟩=H:=hH
  rw[hH,hH']
  split
  ·rename_i k10
   have i1:((pre.length:Int)+1)=((pre++[H]).length:Int):=by simp
   have a1:∀q:List (List UInt8),pre++H::((lnB (d+1) th).map (·.t)++q)=(pre++[H])++((lnB (d+1) th).map (·.t)++q):=fun q=>by simp
   split
   ·rename_i he
    simp only[map_append,List.nil_append,append_assoc]
    rw[a1,i1,Ng A N (d+1) th _ _ h1]
    simp[lnO,Qm]
   ·rename_i he
    simp only[map_append,List.map_cons,append_assoc,cons_append]
    rw[a1,i1,Ng A N (d+1) th _ _ h1]
    have i2:(((pre++[H]).length:Int)+(htB th:Int)+1)=(((pre++[H])++((lnB (d+1) th).map (mkT A N)++[(lnO d [125,32,101,108,115,101,32,123] (-1)).t])).length:Int):=by
     simp only[length_append,List.length_map,IA,length_cons,length_nil];omega
    have a2:∀q:List (List UInt8),(pre++[H])++((lnB (d+1) th).map (mkT A N)++(lnO d [125,32,101,108,115,101,32,123] (-1)).t::((lnB (d+1) el).map (·.t)++q))=((pre++[H])++((lnB (d+1) th).map (mkT A N)++[(lnO d [125,32,101,108,115,101,32,123] (-1)).t]))++((lnB (d+1) el).map (·.t)++q):=fun q=>by simp
    rw[a2,i2,Ng A N (d+1) el _ _ h2]
    simp[lnO,Qm]
  ·split
   ·have i1:((pre.length:Int)+1)=((pre++[H]).length:Int):=by simp
    have a1:∀q:List (List UInt8),pre++H::((lnB (d+1) th).map (·.t)++q)=(pre++[H])++((lnB (d+1) th).map (·.t)++q):=fun q=>by simp
    simp only[map_append,append_assoc]
    rw[a1,i1,Ng A N (d+1) th _ _ h1]
    simp[lnO,Qm]
   ·simp
theorem Ng (A:List Al) (N:List Nt) (d:Nat):∀(l:List Sm) (pre post:List (List UInt8)),noB l→
  bkB A N l (pre++((lnB d l).map (·.t)++post)) (pre.length:Int)=pre++((lnB d l).map (mkT A N)++post)
 |[],pre,post,_=>by simp[bkB,lnB]
 |s::r,pre,post,h=>by
  obtain⟨q1,q2⟩:noS s∧noB r:=by simpa only[noB] using h
  simp only[bkB,lnB,map_append,append_assoc]
  rw[yA A N d s pre _ q1]
  have i1:((pre.length:Int)+(htS s:Int))=((pre++(lnS d s).map (mkT A N)).length:Int):=by
   simp only[length_append,List.length_map,gz];omega
  have a1:∀q:List (List UInt8),pre++((lnS d s).map (mkT A N)++q)=(pre++(lnS d s).map (mkT A N))++q:=fun q=>by simp
  rw[a1,i1,Ng A N d r _ _ q2]
  simp
end
end Go.Proofs.YtbiepiggmagfcaaGreatDoor
namespace Go.Proofs.YtbiepiggmagfcaaGreatDoor
open Go Go.Sy Go.RowKit
theorem cn {k:Nat} (h:k<10):((UInt8.ofNat (48+k)).toNat:Int)=48+(k:Int)∧AR ((UInt8.ofNat (48+k)).toNat:Int)=true∧Ad (IntKind.u8.wrap (((UInt8.ofNat (48+k)).toNat:Int)-48))=(k:Int)∧IntKind.u8.wrap (((UInt8.ofNat (48+k)).toNat:Int)-48)=(k:Int):=by
 have:∀k,k<10→((UInt8.ofNat (48+k)).toNat:Int)=48+(k:Int)∧AR ((UInt8.ofNat (48+k)).toNat:Int)=true∧Ad (IntKind.u8.wrap (((UInt8.ofNat (48+k)).toNat:Int)-48))=(k:Int)∧IntKind.u8.wrap (((UInt8.ofNat (48+k)).toNat:Int)-48)=(k:Int):=by decide
 exact this k h
theorem Ri:∀(d e:List UInt8) (n:Int),Ci (d++e) n=Ci e (Ci d n)
 |[],e,n=>rfl
 |b::d,e,n=>by
  show Ci (d++e) _=_
  rw[Ri d e];rfl
structure decO (u:Nat) (d:List UInt8):Prop where
 dg:∀c∈d,AR (c.toNat:Int)=true
 n:d≠[]
 z:d.length=1∨d.head?≠some 48
 g:dgF d 0 false=((u:Int),false)
 w:Ci d 0=(u:Int)
theorem TN:∀(d e:List UInt8) (n:Int) (g:Bool),(∀c∈d,AR (c.toNat:Int)=true)→dgF (d++e) n g=dgF e (dgF d n g).1 (dgF d n g).2
 |[],e,n,g,_=>rfl
 |b::d,e,n,g,h=>by
  have hb:=h b (by simp)
  have hd:∀c∈d,AR (c.toNat:Int)=true:=fun c hc=>h c (List.mem_cons_of_mem _ hc)
  simp only[cons_append,dgF]
  rw[if_pos hb,if_pos hb]
  split
  ·exact TN d e _ _ hd
  ·exact TN d e _ _ hd
theorem co {b:UInt8} {n:Int} {g:Bool} {k:Nat} (hb:AR (b.toNat:Int)=true) (hk:IntKind.u8.wrap ((b.toNat:Int)-48)=(k:Int)) (h9:k<10) (h0:0≤n) (h:n≤922337203685477580):dgF [b] n g=(10*n+k,g):=by
 simp only[dgF]
 rw[if_pos hb,if_neg (by simp;omega),hk]
 have e1:IntKind.u64.wrap (10*n)=10*n:=wrap_u64 (by omega) (by omega)
 have e2:IntKind.u64.wrap (k:Int)=(k:Int):=wrap_u64 (by omega) (by omega)
 rw[e1,e2,wrap_u64 (by omega) (by omega)]
theorem TO {b:UInt8} {n:Int} {k:Nat} (hk:Ad (IntKind.u8.wrap ((b.toNat:Int)-48))=(k:Int)) (h9:k<10) (h0:0≤n) (h:10*n+k≤9223372036854775807):Ci [b] n=10*n+k:=by
 simp only[Ci]
 rw[hk]
 have e1:Ad (10*n)=10*n:=wrap_i64 (by omega) (by omega)
 rw[e1]
 exact wrap_i64 (by omega) (by omega)
theorem hO:∀(f u:Nat),u<10 ^ (f+1)→u≤9223372036854775807→decO u (Lib.decDigits u)∧(0<u→(Lib.decDigits u).head?≠some 48)
 |f,u,hf,hu=>by
  by_cases h:u<10
  ·rw[Ll h]
   obtain⟨a,b,c,e⟩:=cn h
   refine⟨⟨fun x hx=>?_,by simp,.inl rfl,?_,?_⟩,fun hp hh=>?_⟩
   ·rw[List.mem_singleton.1 hx];exact b
   ·rw[co b e h (by decide) (by decide)];simp
   ·rw[TO c h (by decide) (by omega)];simp
   ·have hh:UInt8.ofNat (48+u)=48:=by simpa using hh
    rw[hh]at a
    have:((48:UInt8).toNat:Int)=48:=rfl
    omega
  ·cases f with
   |zero=>omega
   |succ f=>
    have h1:u / 10<10 ^ (f+1):=by rw[Nat.div_lt_iff_lt_mul (by decide)];rw[Nat.pow_succ]at hf;exact hf
    obtain⟨o,z⟩:=hO f (u / 10) h1 (by omega)
    have hk:u % 10<10:=Nat.mod_lt _ (by decide)
    obtain⟨a,b,c,e⟩:=cn hk
    have hz:(Lib.decDigits (u / 10)).head?≠some 48:=z (by omega)
    have hne:=o.n
    rw[Sr h]
    have hh:(Lib.decDigits (u / 10)++[UInt8.ofNat (48+u % 10)]).head?≠some 48:=by
     cases e:Lib.decDigits (u / 10) with
     |nil=>exact absurd e hne
     |cons x l=>rw[e]at hz;exact hz
    refine⟨⟨fun x hx=>?_,by simp,.inr hh,?_,?_⟩,fun _=>hh⟩
    ·rcases List.mem_append.1 hx with hx|hx
     ·exact o.dg x hx
     ·rw[List.mem_singleton.1 hx];exact b
    ·rw[TN _ _ _ _ o.dg,o.g,co b e hk (by simp only;omega) (by simp only;omega)]
     simp only[jP,and_true];omega
    ·rw[Ri,o.w,TO c hk (by omega) (by omega)];omega
theorem hX {n:Int} (h0:0≤n) (h1:n≤9223372036854775807):numO (itT n)∧dh (itT n)∧Ci (itT n) 0=n:=by
 obtain⟨u,rfl⟩:∃u:Nat,n=(u:Int):=⟨n.toNat,by omega⟩
 have o:=(hO 18 u (by omega) (by omega)).1
 have e:itT (u:Int)=Lib.decDigits u:=Fg u
 rw[e]
 refine⟨⟨o.dg,o.n,o.z,by rw[o.g],by rw[o.g];simp only;omega⟩,?_,o.w⟩
 cases hd:Lib.decDigits u with
 |nil=>exact absurd hd o.n
 |cons c r=>exact⟨c,r,rfl,o.dg c (by rw[hd];simp)⟩
def nmP (s:List UInt8):Prop:=nmO s∧Lz s [(0,s)]
def reE:Ex→Prop
 | .nil=>False
 | .mk k n s a b=>(k=0∧0≤n∧n≤9223372036854775807∧s=[]∧a= .nil∧b= .nil)∨(k=1∧n=0∧nmP s∧a= .nil∧b= .nil)∨(k=7∧n=0∧s=[]∧reE a∧b= .nil)∨((k=2∨k=3∨k=4∨k=5∨k=6)∧n=0∧s=[]∧reE a∧reE b)
def prn (p:Bool) (c:Cx):Cx:=if p=true then .par c else c
def AN:Ex→Cx
 | .nil=>.var []
 | .mk k n s a b=>
  if k=0 then .num (itT n)
  else if k=1 then .var s
  else if k=7 then .neg (prn (suB a||C3 a) (AN a))
  else if k≤3 then .bin k (AN a) (prn (suB b) (AN b))
  else .bin k (prn (suB a) (AN a)) (prn (suB b||C3 b) (AN b))
theorem WK (p:Bool) (c:Cx):(prn p c).v=c.v:=by cases p<;>rfl
theorem TP {p:Bool} {c:Cx} (h:c.wf):(prn p c).wf:=by cases p<;>exact h
theorem TQ {p:Bool} {c:Cx} (h:c.nm):(prn p c).nm:=by cases p<;>exact h
theorem Nh (p:Bool) (c:Cx):(prn p c).dp≤c.dp+1:=by cases p<;>simp[prn,Cx.dp]
theorem WL {p:Bool} {t:List UInt8} {c:Cx} (h:Lz t c.tk):Lz (enT p t) (prn p c).tk:=by
 cases p with
 |false=>exact h
 |true=>exact(((Bs 40).wapp h).app (Bs 41).w (Ac 41 [])).cast rfl (by simp[prn,Cx.tk])
structure caQ (e:Ex):Prop where
 v:(AN e).v=e
 w:(AN e).wf
 n:(AN e).nm
 l:(AN e).lv=if suB e=true then 2 else if C3 e=true then 1 else 0
 d:(AN e).dp≤2*e.dp
 z:Lz (exT e) (AN e).tk
 t:exT e≠[]
theorem aK {e:Ex} (q:caQ e):(prn (suB e) (AN e)).lv≤1:=by
 have:=q.l
 cases h:suB e with
 |true=>exact Nat.zero_le _
 |false=>
  rw[h]at this
  show (AN e).lv≤1
  rw[this,if_neg (by decide)];split<;>decide
theorem aL {e:Ex} (q:caQ e):(prn (suB e||C3 e) (AN e)).lv=0:=by
 have:=q.l
 cases h:suB e with
 |true=>rfl
 |false=>
  cases h2:C3 e with
  |true=>rfl
  |false=>
   rw[h,h2]at this
   exact this
theorem hY {p:Bool} {t:List UInt8} (h:t≠[]):enT p t≠[]:=by
 cases p with
 |false=>exact h
 |true=>simp[enT]
theorem A87 {o:Int} (h:o=2∨o=3∨o=4∨o=5∨o=6):Lw ([32]++opK o++[32]) [(2,opK o)]∧∃q,[32]++opK o++[32]=32::q:=by
 rcases h with rfl|rfl|rfl|rfl|rfl
 ·exact⟨mq,_,rfl⟩
 ·exact⟨mr,_,rfl⟩
 ·exact⟨mu,_,rfl⟩
 ·exact⟨mw,_,rfl⟩
 ·exact⟨my,_,rfl⟩
theorem nW {o:Int} (h:o=2∨o=3∨o=4∨o=5∨o=6) {t u:List UInt8} {a b:Cx} (ha:Lz t a.tk) (hb:Lz u b.tk):Lz ((t++([32]++opK o++[32]))++u) (Cx.bin o a b).tk:=by
 obtain⟨h1,q,h2⟩:=A87 h
 refine((ha.app h1 ⟨32,q,h2,by decide⟩).wapp hb).cast rfl ?_
 simp[Cx.tk]
theorem UY:∀e:Ex,reE e→caQ e
 | .nil,h=>h.elim
 | .mk k n s a b,h=>by
  rcases h with⟨rfl,h0,h1,rfl,rfl,rfl⟩|⟨rfl,rfl,hs,rfl,rfl⟩|⟨rfl,rfl,rfl,ha,rfl⟩|⟨hk,rfl,rfl,ha,hb⟩
  ·obtain⟨n1,n2,n3⟩:=hX h0 h1
   have e:AN (.mk 0 n [] .nil .nil)= .num (itT n):=rfl
   refine⟨by rw[e];show Ex.mk 0 (Ci (itT n) 0) [] .nil .nil=_;rw[n3],by rw[e];trivial,by rw[e];exact n2,by rw[e];rfl,by rw[e];exact Nat.zero_le _,by rw[e];exact nd n1,n1.n⟩
  ·have e:AN (.mk 1 0 s .nil .nil)= .var s:=rfl
   obtain⟨⟨h1,h2⟩,h3⟩:=hs
   refine⟨by rw[e];rfl,by rw[e];exact h1,by rw[e];exact h2,by rw[e];rfl,by rw[e];exact Nat.zero_le _,by rw[e];exact h3,?_⟩
   obtain⟨c,r,h4,_⟩:=h2
   show s≠[]
   rw[h4];simp
  ·have q:=UY a ha
   have e:AN (.mk 7 0 [] a .nil)= .neg (prn (suB a||C3 a) (AN a)):=rfl
   have l0:=aL q
   have d:=Nh (suB a||C3 a) (AN a)
   have d2:=q.d
   refine⟨by rw[e];show Ex.mk 7 0 [] (prn _ _).v .nil=_;rw[WK,q.v],by rw[e];exact⟨l0,TP q.w⟩,by rw[e];exact TQ q.n,by rw[e];rfl,by rw[e];simp only[Cx.dp,Ex.dp];omega,?_,by show [45]++_≠[];simp⟩
   rw[e]
   exact((Bs 45).wapp (WL q.z)).cast rfl rfl
  ·have qa:=UY a ha
   have qb:=UY b hb
   have da:=qa.d
   have db:=qb.d
   have d1:=Nh (suB b) (AN b)
   have d2:=Nh (suB a) (AN a)
   have d3:=Nh (suB b||C3 b) (AN b)
   by_cases h3:k≤3
   ·have e:AN (.mk k 0 [] a b)= .bin k (AN a) (prn (suB b) (AN b)):=by
     show (if k=0 then _ else if k=1 then _ else if k=7 then _ else if k≤3 then _ else _)=_
     rw[if_neg (by omega),if_neg (by omega),if_neg (by omega),if_pos h3]
    have hk2:k=2∨k=3:=by omega
    have es:suB (.mk k 0 [] a b)=true:=by rcases hk2 with rfl|rfl<;>rfl
    have et:exT (.mk k 0 [] a b)=(exT a++([32]++opK k++[32]))++enT (suB b) (exT b):=by rcases hk2 with rfl|rfl<;>rfl
    refine⟨by rw[e];show Ex.mk k 0 [] (AN a).v (prn _ _).v=_;rw[WK,qa.v,qb.v],by rw[e];exact .inl ⟨hk2,aK qb,qa.w,TP qb.w⟩,by rw[e];exact⟨qa.n,TQ qb.n⟩,by rw[e,es];simp only[Cx.lv];rw[if_pos h3];rfl,by rw[e];simp only[Cx.dp,Ex.dp];omega,by rw[e,et];exact nW hk qa.z (WL qb.z),?_⟩
    rw[et]
    have:=qa.t
    simp[this]
   ·have e:AN (.mk k 0 [] a b)= .bin k (prn (suB a) (AN a)) (prn (suB b||C3 b) (AN b)):=by
     show (if k=0 then _ else if k=1 then _ else if k=7 then _ else if k≤3 then _ else _)=_
     rw[if_neg (by omega),if_neg (by omega),if_neg (by omega),if_neg h3]
    have hk2:k=4∨k=5∨k=6:=by omega
    have es:suB (.mk k 0 [] a b)=false∧C3 (.mk k 0 [] a b)=true:=by rcases hk2 with rfl|rfl|rfl<;>exact⟨rfl,rfl⟩
    have et:exT (.mk k 0 [] a b)=(enT (suB a) (exT a)++([32]++opK k++[32]))++enT (suB b||C3 b) (exT b):=by rcases hk2 with rfl|rfl|rfl<;>rfl
    refine⟨by rw[e];show Ex.mk k 0 [] (prn _ _).v (prn _ _).v=_;rw[WK,WK,qa.v,qb.v],by rw[e];exact .inr ⟨hk2,aK qa,aL qb,TP qa.w,TP qb.w⟩,by rw[e];exact⟨TQ qa.n,TQ qb.n⟩,by rw[e,es.1,es.2];simp only[Cx.lv];rw[if_neg h3];rfl,by rw[e];simp only[Cx.dp,Ex.dp];omega,by rw[e,et];exact nW hk (WL qa.z) (WL qb.z),?_⟩
    rw[et]
    have:=hY (p:=suB a) qa.t
    simp[this]
end Go.Proofs.YtbiepiggmagfcaaGreatDoor
