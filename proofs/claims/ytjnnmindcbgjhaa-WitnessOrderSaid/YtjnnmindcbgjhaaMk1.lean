/- The maker's small functions. No conditions but those in each statement. -/
import Derived.Test.YtjnnmindcbgjhaaMi1
import Derived.Test.YtjnnmindcbgjhaaCx5
import Derived.Test.YtjnnmindcbgjhaaGs
import Derived.Lib.ItoaNum
import Derived.Test.YtjnnmindcbgjhaaRmn
set_option linter.unusedVariables false
set_option linter.unusedSimpArgs false
set_option maxRecDepth 20000
set_option maxHeartbeats 8000000
namespace Go.Proofs.Ytjnnmindcbgjhaa
open Go Go.Sy Go.RowKit
structure Mk where
 b:List Int
 i:Int
 n:Int
def byD (x:Int):List D:=[.v (.int .u8 x)]
def zBy:List D:=[.v (.int .u8 0)]
def Mk.c (p:Mk):List C:=[.d (.sl zBy (p.b.map byD)),.v (.int .i64 p.i),.v (.int .i64 p.n)]
def nmT:List (List UInt8):=[[102],[103],[104],[107]]
def okM (m:Mk) (c:Int):Prop:=0≤m.i∧m.i+c≤4294967296∧∀x∈m.b,0≤x∧x<256
def dw (m:Mk):Int:=if decide (m.i<(m.b.length:Int))=true then w64i (m.b.getD m.i.toNat 0) else 0
def nxV (j:Int) (m:Mk):Int:=(dw m).tmod j
structure Ax (m q:Mk) (c:Int):Prop where
 lo:m.i≤q.i
 hi:q.i≤m.i+c
 b:q.b=m.b
theorem Ax.refl (m:Mk):Ax m m 0:=⟨Int.le_refl _,by omega,rfl⟩
theorem Ax.trans {m q r:Mk} {c d:Int} (h:Ax m q c) (h':Ax q r d):Ax m r (c+d):=⟨Int.le_trans h.lo h'.lo,by have:=h.hi;have:=h'.hi;omega,h'.b.trans h.b⟩
theorem Ax.mono {m q:Mk} {c d:Int} (h:Ax m q c) (hd:c≤d):Ax m q d:=⟨h.lo,by have:=h.hi;omega,h.b⟩
theorem Ax.ok {m q:Mk} {c d:Int} (h:Ax m q c) (ho:okM m (c+d)):okM q d:=⟨by have:=h.lo;have:=ho.1;omega,by have:=h.hi;have:=ho.2.1;omega,by rw[h.b];exact ho.2.2⟩
theorem okM.mono {m:Mk} {c d:Int} (h:okM m c) (hd:d≤c):okM m d:=⟨h.1,by have:=h.2.1;omega,h.2.2⟩
abbrev T:=List UInt8×Mk
end Go.Proofs.Ytjnnmindcbgjhaa
namespace Go.Proofs.Ytjnnmindcbgjhaa
open Go Go.Sy Go.RowKit
end Go.Proofs.Ytjnnmindcbgjhaa
namespace Go.Proofs.Ytjnnmindcbgjhaa
open Go Go.Sy Go.RowKit
def nmS (s:Int):List UInt8:=nmT.getD (s.tmod 4).toNat []
end Go.Proofs.Ytjnnmindcbgjhaa
namespace Go.Proofs.Ytjnnmindcbgjhaa
open Go Go.Sy Go.RowKit
def dcM (m:Mk):Mk:={ m with n:=w64i (m.n-1) }
end Go.Proofs.Ytjnnmindcbgjhaa
namespace Go.Proofs.Ytjnnmindcbgjhaa
open Go Go.Sy Go.RowKit
def m0 (b:List Int):Mk:=⟨b,0,25⟩
end Go.Proofs.Ytjnnmindcbgjhaa
namespace Go.Proofs.Ytjnnmindcbgjhaa
open Go Go.Sy Go.RowKit
theorem idn {s:List UInt8} (h:(match s with|c::t=>EN (c.toNat:Int)&&t.all (fun c=>idB (c.toNat:Int))|[]=>false)=true) (hl:s.length≤32):lh s∧Lz s [(0,s)]:=by
 cases s with
 |nil=>cases h
 |cons c t=>
  simp only[Bool.and_eq_true]at h
  have h1:lh (c::t):=⟨c,t,rfl,h.1⟩
  refine⟨h1,yO h1 (fun d hd=>?_) hl⟩
  rcases List.mem_cons.1 hd with rfl|hd
  ·unfold idB;rw[h.1];rfl
  ·exact List.all_eq_true.1 h.2 d hd
structure nmQ (s:List UInt8):Prop where
 o:nmO s
 z:Lz s [(0,s)]
 n:s≠[]
 l:s.length≤1
theorem nmQ.of {s:List UInt8} (h:(match s with|c::t=>EN (c.toNat:Int)&&t.all (fun c=>idB (c.toNat:Int))|[]=>false)=true:=by decide) (hl:s.length≤1:=by decide) (hw:DZ s=false:=by decide):nmQ s:=by
 obtain⟨h1,h2⟩:=idn h (by omega)
 refine⟨⟨hw,h1⟩,h2,?_,hl⟩
 rintro rfl;cases h
def okK (m:Mk):Prop:=∀x∈m.b,0≤x∧x<256
theorem A4R {m:Mk} (h:okK m):0≤dw m:=by
 unfold dw
 split
 ·rw[List.getD_eq_getElem?_getD]
  cases hx:m.b[m.i.toNat]? with
  |none=>show 0≤w64i 0;decide
  |some x=>
   have:=h x (List.mem_of_getElem? hx)
   show 0≤w64i x
   unfold w64i;rw[wrap_i64 (by omega) (by omega)];exact this.1
 ·exact Int.le_refl _
theorem nxK {m:Mk} (h:okK m) {j:Int} (hj:0<j):0≤nxV j m∧nxV j m<j:=⟨Int.tmod_nonneg _ (A4R h),Int.tmod_lt_of_pos _ hj⟩
structure Sm0 (m q:Mk):Prop where
 b:q.b=m.b
 n:q.n=m.n
theorem Sm0.ok {m q:Mk} (h:Sm0 m q) (k:okK m):okK q:=by unfold okK;rw[h.b];exact k
theorem Sm0.trans {m q r:Mk} (h:Sm0 m q) (k:Sm0 q r):Sm0 m r:=⟨k.b.trans h.b,k.n.trans h.n⟩
theorem Sm0.refl (m:Mk):Sm0 m m:=⟨rfl,rfl⟩
theorem nm_q {m:Mk} (h:okK m):nmQ (nmS (nxV 4 m)):=by
 have h2:=nxK h (j:=4) (by decide)
 unfold nmS
 have h3:(nxV 4 m).tmod 4=nxV 4 m:=Int.tmod_eq_of_lt h2.1 h2.2
 rw[h3]
 have h4:(nxV 4 m).toNat<4:=by omega
 generalize (nxV 4 m).toNat=i at h4
 match i,h4 with
 |0,_=>exact nmQ.of
 |1,_=>exact nmQ.of
 |2,_=>exact nmQ.of
 |3,_=>exact nmQ.of
structure nuQ (d:List UInt8):Prop where
 o:dh d
 z:Lz d [(1,d)]
 n:d≠[]
 l:d.length≤19
theorem nuQ.of {d:List UInt8} (h:d.all (fun c=>Bk (c.toNat:Int))=true:=by decide) (hn:d≠[]:=by decide) (hz:d.length=1∨d.head?≠some 48:=by decide) (hg:(dgF d 0 false).2=false∧(dgF d 0 false).1≤9223372036854775807:=by decide) (hl:d.length≤19:=by decide):nuQ d:=by
 have h1:∀c∈d,Bk (c.toNat:Int)=true:=fun c hc=>List.all_eq_true.1 h c hc
 refine⟨?_,Ys ⟨h1,hn,hz,hg⟩,hn,hl⟩
 cases d with
 |nil=>exact absurd rfl hn
 |cons c t=>exact⟨c,t,rfl,h1 c (by simp)⟩
structure suQ (k:Nat) (t:List UInt8) (c:Cx):Prop where
 o:exO c
 d:c.dp≤k
 z:Lz t c.tk
 n:t≠[]
 l:t.length≤19+6*k
theorem rn (c:UInt8) (q:List UInt8) (h:pS c=true:=by decide):∃d r,c::q=d::r∧pS d=true:=⟨c,q,rfl,h⟩
end Go.Proofs.Ytjnnmindcbgjhaa
namespace Go.Proofs.Ytjnnmindcbgjhaa
open Go Go.Sy Go.RowKit
abbrev w64 (n:Int):Prop := -9223372036854775808≤n∧n≤9223372036854775807
def itT (n:Int):List UInt8:=Lib.itoa n
abbrev dx:List UInt8:=[48,49,50,51,52,53,54,55,56,57]
theorem aY:∀n,n<10→(dx.drop n).take (n+1-n)=[UInt8.ofNat (48+n)]:=by decide
theorem MP {u:Nat} (h:u<10):Lib.decDigits u=[UInt8.ofNat (48+u)]:=by rw[Lib.decDigits,dif_pos h]
theorem SA {u:Nat} (h:¬u<10):Lib.decDigits u=Lib.decDigits (u / 10)++[UInt8.ofNat (48+u % 10)]:=by rw[Lib.decDigits,dif_neg h]
theorem TN:∀(f u:Nat),u<10 ^ (f+1)→(Lib.decDigits u).length≤f+1
 |0,u,h=>by rw[MP (by simpa using h)];simp
 |f+1,u,h=>by
  by_cases hu:u<10
  ·rw[MP hu];simp
  ·rw[SA hu]
   have:=TN f (u / 10) (by rw[Nat.div_lt_iff_lt_mul (by decide)];rw[Nat.pow_succ]at h;exact h)
   simp;omega
theorem Hr (u:Nat):Lib.itoa (u:Int)=Lib.decDigits u:=by unfold Lib.itoa;rw[if_neg (by omega)];rfl
theorem RF {u:Nat} (h:0<u):Lib.itoa (-(u:Int))=45::Lib.decDigits u:=by unfold Lib.itoa;rw[if_pos (by omega)];simp
theorem dy (f:Nat) (n:Int) (h:n.natAbs<10 ^ (f+1)):(Lib.itoa n).length≤f+2:=by
 unfold Lib.itoa
 split
 ·have:=TN f n.natAbs h;simp;omega
 ·have:=TN f n.toNat (by omega);omega
theorem KJ {n:Int} (h:w64 n):(Lib.itoa n).length≤22:=dy 20 n (Nat.lt_of_le_of_lt (show n.natAbs≤9223372036854775808 by obtain⟨h1,h2⟩:=h;omega) (by decide))
abbrev cdD (f:Nat) (p:Int×Unit):Prop:=w64 p.1∧(p.1.natAbs<10 ^ f∨(0≤p.1∧p.1<10))
abbrev fnD (p:Int×Unit):SV:=.one (.v (.string (bs (Lib.itoa p.1))))
theorem ye:∀p,(fnD p).names=[]:=by intro p;rfl
theorem yf:∀f:Nat,Cg Try.prog 24 (acS (cInt .i64) ac0) (cdD f) fnD:=by
 intro f
 induction f with
 |zero=>
  rintro ⟨n,_u⟩ w fz xs hc hfz hl hx
  refine X0 Try.func24 rfl w fz [] [] (acS (cInt .i64) ac0) fnD _ xs hfz hl hx (jN rfl) ?_
  clear hx hl hfz xs
  simp only[Try.f24]
  obtain⟨⟨h1,h2⟩,h3⟩:=hc
  dsimp only at h1 h2 h3
  rw[Nat.pow_zero]at h3
  obtain⟨m,rfl⟩:∃m:Nat,n=(m:Int):=⟨n.natAbs,by omega⟩
  have h9:m<10:=by omega
  have d1:decide ((m:Int)<0)=false:=by simp
  have d2:decide ((m:Int)<10)=true:=by simp;omega
  have d3:IntKind.i64.wrap ((m:Int)+1)=((m+1:Nat):Int):=by rw[wrap_i64 (by omega) (by omega)];rfl
  have d4:=aY m h9
  simp only[dx]at d4
  simp only[↓eB,seval,go_sem,d1,d2,d3]
  refine⟨⟨by omega,by omega⟩,?_⟩
  rw[d4]
  refine A0 [] ?_;simp only[↓eB,seval,go_sem,bne,fnD,Hr,MP h9]
 |succ f ih=>
  rintro ⟨n,_u⟩ w fz xs hc hfz hl hx
  refine X0 Try.func24 rfl w fz [DG 24 Try.call24 (acS (cInt .i64) ac0) (cdD f) fnD ye ih] [] (acS (cInt .i64) ac0) fnD _ xs hfz hl hx (jN rfl) ?_
  clear hx hl hfz xs
  simp only[Try.f24]
  obtain⟨⟨h1,h2⟩,h3⟩:=hc
  dsimp only at h1 h2 h3
  rw[Nat.pow_succ]at h3
  by_cases hn:n<0
  ·obtain⟨m,rfl⟩:∃m:Nat,n = -(m:Int):=⟨n.natAbs,by omega⟩
   have d1:decide (-(m:Int)<0)=true:=by simp;omega
   by_cases h9:9<m
   ·have d2:decide (-(m:Int) < -9)=true:=by simp;omega
    have d3:IntKind.i64.wrap ((-(m:Int)).tdiv 10) = -((m / 10:Nat):Int):=by
     rw[Int.neg_tdiv,Int.tdiv_eq_ediv_of_nonneg (by omega),wrap_i64 (by omega) (by omega)];omega
    have d4:IntKind.i64.wrap (0-(-(m:Int)).tmod 10)=((m % 10:Nat):Int):=by
     rw[Int.neg_tmod,Int.tmod_eq_emod_of_nonneg (by omega),wrap_i64 (by omega) (by omega)];omega
    have h7:m % 10<10:=Nat.mod_lt _ (by decide)
    have k1:w64 (-((m / 10:Nat):Int)):=⟨by omega,by omega⟩
    have k2:w64 ((m % 10:Nat):Int):=⟨by omega,by omega⟩
    have l1:=KJ k1
    have l2:=KJ k2
    have e1:Lib.itoa (-((m / 10:Nat):Int))++Lib.itoa ((m % 10:Nat):Int)=Lib.itoa (-(m:Int)):=by
     rw[RF (by omega),RF (by omega),Hr,MP h7,SA (u:=m) (by omega)];rfl
    simp only[↓eB,seval,go_sem,d1,d2,d3,d4]
    refine⟨⟨k1,.inl ?_⟩,⟨k2,.inr ⟨by dsimp only;omega,by dsimp only;omega⟩⟩,by omega,?_⟩
    ·show (-((m / 10:Nat):Int)).natAbs<_
     omega
    ·rw[e1]
     refine A0 [] ?_;simp only[↓eB,seval,go_sem,bne,fnD]
   ·have d2:decide (-(m:Int) < -9)=false:=by simp;omega
    have d3:IntKind.i64.wrap (0 - -(m:Int))=(m:Int):=by rw[wrap_i64 (by omega) (by omega)];omega
    have k1:w64 (m:Int):=⟨by omega,by omega⟩
    have l1:=KJ k1
    have e1:45::Lib.itoa (m:Int)=Lib.itoa (-(m:Int)):=by rw[RF (by omega),Hr]
    simp only[↓eB,seval,go_sem,d1,d2,d3]
    refine⟨⟨k1,.inr ⟨by dsimp only;omega,by dsimp only;omega⟩⟩,by omega,?_⟩
    rw[e1]
    refine A0 [] ?_;simp only[↓eB,seval,go_sem,bne,fnD]
  ·obtain⟨m,rfl⟩:∃m:Nat,n=(m:Int):=⟨n.natAbs,by omega⟩
   have d1:decide ((m:Int)<0)=false:=by simp
   by_cases h9:m<10
   ·have d2:decide ((m:Int)<10)=true:=by simp;omega
    have d3:IntKind.i64.wrap ((m:Int)+1)=((m+1:Nat):Int):=by rw[wrap_i64 (by omega) (by omega)];rfl
    have d4:=aY m h9
    simp only[dx]at d4
    simp only[↓eB,seval,go_sem,d1,d2,d3]
    refine⟨⟨by omega,by omega⟩,?_⟩
    rw[d4]
    refine A0 [] ?_;simp only[↓eB,seval,go_sem,bne,fnD,Hr,MP h9]
   ·have d2:decide ((m:Int)<10)=false:=by simp;omega
    have d3:IntKind.i64.wrap ((m:Int).tdiv 10)=((m / 10:Nat):Int):=by
     rw[Int.tdiv_eq_ediv_of_nonneg (by omega),wrap_i64 (by omega) (by omega)];omega
    have d4:(m:Int).tmod 10=((m % 10:Nat):Int):=by rw[Int.tmod_eq_emod_of_nonneg (by omega)];omega
    have h7:m % 10<10:=Nat.mod_lt _ (by decide)
    have k1:w64 ((m / 10:Nat):Int):=⟨by omega,by omega⟩
    have k2:w64 ((m % 10:Nat):Int):=⟨by omega,by omega⟩
    have l1:=KJ k1
    have l2:=KJ k2
    have e1:Lib.itoa ((m / 10:Nat):Int)++Lib.itoa ((m % 10:Nat):Int)=Lib.itoa (m:Int):=by
     rw[Hr,Hr,Hr,MP h7,SA (u:=m) h9]
    simp only[↓eB,seval,go_sem,d1,d2,d3,d4]
    refine⟨⟨k1,.inl ?_⟩,⟨k2,.inr ⟨by dsimp only;omega,by dsimp only;omega⟩⟩,by omega,?_⟩
    ·show (((m / 10:Nat):Int)).natAbs<_
     omega
    ·rw[e1]
     refine A0 [] ?_;simp only[↓eB,seval,go_sem,bne,fnD]
theorem rp {n:Int} (h:w64 n):n.natAbs<10 ^ 20:=Nat.lt_of_le_of_lt (show n.natAbs≤9223372036854775808 by obtain⟨h1,h2⟩:=h;omega) (by decide)
abbrev iR (n:Int):Prop:=w64 n
abbrev SB (n:Int):SV:=SV.one (.v (.string (bs (itT n))))
theorem A4S:Cg Try.prog 24 (acS (cInt .i64) ac0) (fun p:(Int×Unit)=>iR p.1) (fun p:(Int×Unit)=>SB p.1):=fun a w fz xs hc=>yf 20 a w fz xs ⟨hc,.inl (rp hc)⟩
theorem yg:∀p:(Int×Unit),((fun p:(Int×Unit)=>SB p.1) p).names=[]:=by intro p;first|rfl|simp[SV.names,C.names]
noncomputable def Yv {X:Ctx} {w0:World}:Sy.Spec Try.prog X w0:=DG 24 Try.call24 (acS (cInt .i64) ac0) (fun p:(Int×Unit)=>iR p.1) (fun p:(Int×Unit)=>SB p.1) yg A4S
theorem TO {n:Int} (h:w64 n):(itT n).length≤22:=KJ h
end Go.Proofs.Ytjnnmindcbgjhaa
namespace Go.Proofs.Ytjnnmindcbgjhaa
open Go Go.Sy Go.RowKit
theorem iS {k:Nat} (h:k<10):((UInt8.ofNat (48+k)).toNat:Int)=48+(k:Int)∧Bk ((UInt8.ofNat (48+k)).toNat:Int)=true∧w64i (IntKind.u8.wrap (((UInt8.ofNat (48+k)).toNat:Int)-48))=(k:Int)∧IntKind.u8.wrap (((UInt8.ofNat (48+k)).toNat:Int)-48)=(k:Int):=by
 have:∀k,k<10→((UInt8.ofNat (48+k)).toNat:Int)=48+(k:Int)∧Bk ((UInt8.ofNat (48+k)).toNat:Int)=true∧w64i (IntKind.u8.wrap (((UInt8.ofNat (48+k)).toNat:Int)-48))=(k:Int)∧IntKind.u8.wrap (((UInt8.ofNat (48+k)).toNat:Int)-48)=(k:Int):=by decide
 exact this k h
theorem VZ:∀(d e:List UInt8) (n:Int),numW (d++e) n=numW e (numW d n)
 |[],e,n=>rfl
 |b::d,e,n=>by
  show numW (d++e) _=_
  rw[VZ d e];rfl
structure decO (u:Nat) (d:List UInt8):Prop where
 dg:∀c∈d,Bk (c.toNat:Int)=true
 n:d≠[]
 z:d.length=1∨d.head?≠some 48
 g:dgF d 0 false=((u:Int),false)
 w:numW d 0=(u:Int)
theorem Vb:∀(d e:List UInt8) (n:Int) (g:Bool),(∀c∈d,Bk (c.toNat:Int)=true)→dgF (d++e) n g=dgF e (dgF d n g).1 (dgF d n g).2
 |[],e,n,g,_=>rfl
 |b::d,e,n,g,h=>by
  have hb:=h b (by simp)
  have hd:∀c∈d,Bk (c.toNat:Int)=true:=fun c hc=>h c (List.mem_cons_of_mem _ hc)
  simp only[List.cons_append,dgF]
  rw[if_pos hb,if_pos hb]
  split
  ·exact Vb d e _ _ hd
  ·exact Vb d e _ _ hd
theorem iT {b:UInt8} {n:Int} {g:Bool} {k:Nat} (hb:Bk (b.toNat:Int)=true) (hk:IntKind.u8.wrap ((b.toNat:Int)-48)=(k:Int)) (h9:k<10) (h0:0≤n) (h:n≤922337203685477580):dgF [b] n g=(10*n+k,g):=by
 simp only[dgF]
 rw[if_pos hb,if_neg (by simp;omega),hk]
 have e1:IntKind.u64.wrap (10*n)=10*n:=wrap_u64 (by omega) (by omega)
 have e2:IntKind.u64.wrap (k:Int)=(k:Int):=wrap_u64 (by omega) (by omega)
 rw[e1,e2,wrap_u64 (by omega) (by omega)]
theorem aZ {b:UInt8} {n:Int} {k:Nat} (hk:w64i (IntKind.u8.wrap ((b.toNat:Int)-48))=(k:Int)) (h9:k<10) (h0:0≤n) (h:10*n+k≤9223372036854775807):numW [b] n=10*n+k:=by
 simp only[numW]
 rw[hk]
 have e1:w64i (10*n)=10*n:=wrap_i64 (by omega) (by omega)
 rw[e1]
 exact wrap_i64 (by omega) (by omega)
theorem ah:∀(f u:Nat),u<10 ^ (f+1)→u≤9223372036854775807→decO u (Lib.decDigits u)∧(0<u→(Lib.decDigits u).head?≠some 48)
 |f,u,hf,hu=>by
  by_cases h:u<10
  ·rw[MP h]
   obtain⟨a,b,c,e⟩:=iS h
   refine⟨⟨fun x hx=>?_,by simp,.inl rfl,?_,?_⟩,fun hp hh=>?_⟩
   ·rw[List.mem_singleton.1 hx];exact b
   ·rw[iT b e h (by decide) (by decide)];simp
   ·rw[aZ c h (by decide) (by omega)];simp
   ·have hh:UInt8.ofNat (48+u)=48:=by simpa using hh
    rw[hh]at a
    have:((48:UInt8).toNat:Int)=48:=rfl
    omega
  ·cases f with
   |zero=>omega
   |succ f=>
    have h1:u / 10<10 ^ (f+1):=by rw[Nat.div_lt_iff_lt_mul (by decide)];rw[Nat.pow_succ]at hf;exact hf
    obtain⟨o,z⟩:=ah f (u / 10) h1 (by omega)
    have hk:u % 10<10:=Nat.mod_lt _ (by decide)
    obtain⟨a,b,c,e⟩:=iS hk
    have hz:(Lib.decDigits (u / 10)).head?≠some 48:=z (by omega)
    have hne:=o.n
    rw[SA h]
    have hh:(Lib.decDigits (u / 10)++[UInt8.ofNat (48+u % 10)]).head?≠some 48:=by
     cases e:Lib.decDigits (u / 10) with
     |nil=>exact absurd e hne
     |cons x l=>rw[e]at hz;exact hz
    refine⟨⟨fun x hx=>?_,by simp,.inr hh,?_,?_⟩,fun _=>hh⟩
    ·rcases List.mem_append.1 hx with hx|hx
     ·exact o.dg x hx
     ·rw[List.mem_singleton.1 hx];exact b
    ·rw[Vb _ _ _ _ o.dg,o.g,iT b e hk (by simp only;omega) (by simp only;omega)]
     simp only[jP,and_true];omega
    ·rw[VZ,o.w,aZ c hk (by omega) (by omega)];omega
theorem rq {n:Int} (h0:0≤n) (h1:n≤9223372036854775807):numO (itT n)∧dh (itT n)∧numW (itT n) 0=n:=by
 obtain⟨u,rfl⟩:∃u:Nat,n=(u:Int):=⟨n.toNat,by omega⟩
 have o:=(ah 18 u (by omega) (by omega)).1
 have e:itT (u:Int)=Lib.decDigits u:=Hr u
 rw[e]
 refine⟨⟨o.dg,o.n,o.z,by rw[o.g],by rw[o.g];simp only;omega⟩,?_,o.w⟩
 cases hd:Lib.decDigits u with
 |nil=>exact absurd hd o.n
 |cons c r=>exact⟨c,r,rfl,o.dg c (by rw[hd];simp)⟩
end Go.Proofs.Ytjnnmindcbgjhaa
namespace Go.Proofs.Ytjnnmindcbgjhaa
open Go Go.Sy Go.RowKit
structure Ou where
 e:Int
 v:Int
 f:List UInt8
 al:Int
 k:Int
 s:Sta
def Ou.c (x:Ou):List C:=[.v (.int .i64 x.e),.v (.int .i64 x.v),.v (.string (bs x.f)),.v (.int .i64 x.al),.v (.int .i64 x.k),.d (.sl NZ (x.s.cs.map Nb.r)),.d (.sl Nc (x.s.ar.map Na.r))]
theorem yh {l:List Int} {i:Nat} {x:Int} (h:l[i]?=some x) (z:List D):(l.map iD).getD i z=[.v (.int .i64 x)]:=by simp[List.getD,h,iD]
end Go.Proofs.Ytjnnmindcbgjhaa
namespace Go.Proofs.Ytjnnmindcbgjhaa
open Go Go.Sy Go.RowKit
def idx (s:List UInt8):List (List UInt8)→Option Nat
 |[]=>none
 |x::r=>if (x==s)=true then some 0 else (idx s r).map (·+1)
abbrev A4T (pc:List (List UInt8)) (pa:List Gy) (pf:List Fn):Ch:=.vec 0 [.v (.bool false),.v (.bool false),.v (.bool false)] [[.d (.sl FN (pc.map cSd)),.d (.sl GL (pa.map Gy.r)),.d (.sl zFn (pf.map Fn.r))]]
theorem Lh (k t:Nat) (l:List Int):(l.map cI).map (fun r=>r.map (mvC k t))=l.map cI:=G1 cI (fun _=>rfl) l
abbrev Vc:List C:=tgN 44 2
end Go.Proofs.Ytjnnmindcbgjhaa
namespace Go.Proofs.Ytjnnmindcbgjhaa
open Go Go.Sy Go.RowKit
end Go.Proofs.Ytjnnmindcbgjhaa
namespace Go.Proofs.Ytjnnmindcbgjhaa
open Go Go.Sy Go.RowKit
def aP:Pg:=⟨⟨[[99]],[⟨[116],2⟩]⟩,[⟨[102],[⟨[120],false⟩],[],[(.mk 0 [99] [] (.mk 2 0 [] (.mk 4 0 [] (.mk 1 0 [99] .nil .nil) (.mk 0 3 [] .nil .nil)) (.mk 1 0 [120] .nil .nil)) .nil .nil [] [] [] 0),(.mk 6 [120] [116] (.mk 0 1 [] .nil .nil) .nil .nil [] [] [] 1),(.mk 7 [] [116] (.mk 0 0 [] .nil .nil) (.mk 1 0 [120] .nil .nil) .nil [] [] [] 2),(.mk 7 [] [116] (.mk 0 1 [] .nil .nil) (.mk 1 0 [99] .nil .nil) .nil [] [] [] 3),(.mk 9 [] [] (.mk 1 0 [99] .nil .nil) .nil .nil [] [] [] 4)]⟩]⟩
structure agS (a:Sta) (B x y:Int):Prop where
 c:stCs aP.g.c a.cs=[⟨[99],B⟩]
 a:stA aP.g.a a.ar=[⟨[116],[x,y]⟩]
end Go.Proofs.Ytjnnmindcbgjhaa
namespace Go.Proofs.Ytjnnmindcbgjhaa
open Go Go.Sy Go.RowKit
def LV:List C:=[.v (.bool false),.v (.int .i64 0),.v (.string (bs []))]
theorem Vd (l:List Va):List.flatMap (fun r=>List.flatMap C.names r) (l.map Va.c)=[]:=List.flatMap_eq_nil_iff.2 fun p hp=>by
 obtain⟨a,_,rfl⟩:=List.mem_map.1 hp
 rfl
theorem Yw (k t:Nat) (l:List Va):(l.map Va.c).map (fun r=>r.map (mvC k t))=l.map Va.c:=G1 Va.c (fun _=>rfl) l
theorem Ve (l:List Va):D7 (l.map Va.c)=some (l.map Va.r):=FX Va.c (fun _=>rfl) l
noncomputable def cI6:Cod (List Int):=Hk (fun l=>.one (.d (.sl zIw (l.map iD)))) (fun v a b h h'=>by
 cases v with
 |one c=>exact B2 bh (FY h h')
 |agg l=>exact h.elim
 |tup l=>exact h.elim) (fun l=>rfl)
theorem SD (l:List Int):cI6.e l= .one (.d (.sl zIw (l.map iD))):=rfl
theorem Ox (l:List Int):cI6.d (.one (.d (.sl zIw (l.map iD))))=some l:=E9 (e:=fun l:List Int=>.one (.d (.sl zIw (l.map iD)))) (EV _)
theorem aj (x:Int):cI6.d (.one (.d (.sl [.v (.int .i64 0)] [[.v (.int .i64 x)]])))=some [x]:=Ox [x]
theorem ak (x y:Int):cI6.d (.one (.d (.sl [.v (.int .i64 0)] [[.v (.int .i64 x)],[.v (.int .i64 y)]])))=some [x,y]:=Ox [x,y]
def Pi (P:Pg):List Va:=⟨true,0,[]⟩::P.g.c.map fun c=>⟨true,0,c⟩
def Ci (l:List Int):List Va:=if (l.length:Int)==0 then [⟨false,0,[]⟩] else l.map fun n=>⟨false,n,[]⟩
def NU (pc:List (List UInt8)) (i:Nat):List Va:=⟨true,0,[]⟩::(pc.take i).map fun c=>⟨true,0,c⟩
def LA (l:List Int) (i:Nat):List Va:=(l.take i).map fun n=>⟨false,n,[]⟩
theorem rr (pc:List (List UInt8)):NU pc 0=[⟨true,0,[]⟩]:=rfl
theorem jw (l:List Int):LA l 0=[]:=rfl
theorem iU (p:Bool) (n:Int) (s:List UInt8):BS [[C.v (.bool p),C.v (.int .i64 n),C.v (.string (bs s))]]:=by
 intro r h c hc
 rw[List.mem_singleton.1 h]at hc
 simp only[List.mem_cons,List.not_mem_nil,or_false]at hc
 rcases hc with rfl|rfl|rfl<;>rfl
abbrev R6 (p:Pg):Prop:=p.g.c.length≤1000000
abbrev HC (p:Pg):SV:=.one (.d (.sl ES ((Pi p).map Va.r)))
noncomputable abbrev NW:ArgC ((Pg)×Unit):=(acS (cPg) ac0)
abbrev XF:Prop:=Cg Try.prog 65 NW (fun p:(Pg)×Unit=>R6 p.1) (fun p:(Pg)×Unit=>HC p.1)
theorem XG:∀p:(Pg)×Unit,((fun p:(Pg)×Unit=>HC p.1) p).names=[]:=by intro p;rfl
attribute [local go_sem] Va.c Va.r Ox SD NF NE pgR Ve Yw Vd
theorem Yx:XF:=by
 rintro ⟨p,_u⟩ w fz xs hc hfz hl hx
 refine Bw Try.func65 rfl w fz [] [] NW (fun p:(Pg)×Unit=>HC p.1) _ xs hfz hl hx (jN rfl) ?_
 clear hx hl hfz xs
 simp only[Try.f65]
 obtain⟨⟨pc,pa⟩,pf⟩:=p
 have hc:pc.length≤1000000:=hc
 simp only[↓eB,seval,go_sem]
 refine Ac (Y:=Nat) (fun i=>i≤pc.length)
  (fun i=>⟨[(3,true,.one (.s 1000)),(10,true,.one (.d (.sl FN (pc.map cSd)))),(11,true,.one (.v (.int .i64 (pc.length:Int)))),(12,true,.one (.v (.int .i64 (i:Int))))],
   [(1000,.vec 0 LV ((NU pc i).map Va.c))]⟩)
  (fun i=>pc.length-i) 0 (Nat.zero_le _) ?_ ?_
 ·refine A2 [.mv 7 1000] ?_;simp only[↓eB,seval,go_sem,LV,rr]
 ·rintro i hi
  refine Aq [] [] _ _ _ ?_
  have w1:IntKind.i64.wrap ((i:Int)+1)=((i+1:Nat):Int):=by rw[wrap_i64 (by omega) (by omega)];rfl
  cases hx:pc[i]? with
  |none=>
   have g2:=List.getElem?_eq_none_iff.1 hx
   have g1:=BA g2
   have hr:Pi ⟨⟨pc,pa⟩,pf⟩=NU pc i:=by unfold NU;rw[List.take_of_length_le g2];rfl
   simp only[↓eB,seval,go_sem,g1]
   refine A0 [.fz 1000] ?_;simp only[↓eB,seval,go_sem,bne,HC,hr,LV]
  |some x=>
   have hlt:=(List.getElem?_eq_some_iff.1 hx).1
   have g1:=B9 hlt
   have hil:(i:Int)<(pc.length:Int):=by omega
   have hs:(pc.map cSd).getD i FN=cSd x:=by simp[List.getD,hx]
   have hln:(NU pc i).length=i+1:=by simp[NU];omega
   have ht:(NU pc (i+1)).map Va.c=(NU pc i).map Va.c++[[.v (.bool true),.v (.int .i64 0),.v (.string (bs x))]]:=by
    unfold NU;rw[List.take_add_one,hx];simp[Va.c]
   simp only[↓eB,seval,go_sem,g1,hs,cSd,w1]
   refine⟨⟨hil,rfl⟩,⟨⟨rfl,.inl rfl⟩,(fun q h=>by cases h;rfl),iU _ _ _,(by decide),(by omega),(by omega)⟩,i+1,hlt,(by omega),B4 (t:=⟨[(3,true,.one (.s 20)),(10,true,.one (.d (.sl FN (pc.map cSd)))),(11,true,.one (.v (.int .i64 (pc.length:Int)))),(12,true,.one (.v (.int .i64 ((i+1:Nat):Int))))],
    [(20,.vec 0 LV ((NU pc (i+1)).map Va.c))]⟩) ?_ ?_⟩
   ·rw[ht]
    refine A2 [] ?_;simp only[↓eB,seval,go_sem,List.map_append,List.flatMap_append]
   ·refine A2 [.mv 20 1000] ?_;simp only[↓eB,seval,go_sem]
noncomputable def HD {X:Ctx} {w0:World}:Sy.Spec Try.prog X w0:=DG 65 Try.call65 NW (fun p:(Pg)×Unit=>R6 p.1) (fun p:(Pg)×Unit=>HC p.1) XG Yx
abbrev R7 (l:List Int):Prop:=l.length≤1000000
abbrev G3 (l:List Int):SV:=.one (.d (.sl ES ((Ci l).map Va.r)))
noncomputable abbrev NX:ArgC ((List Int)×Unit):=(acS (cI6) ac0)
abbrev XH:Prop:=Cg Try.prog 66 NX (fun p:(List Int)×Unit=>R7 p.1) (fun p:(List Int)×Unit=>G3 p.1)
theorem XI:∀p:(List Int)×Unit,((fun p:(List Int)×Unit=>G3 p.1) p).names=[]:=by intro p;rfl
theorem Yy:XH:=by
 rintro ⟨l,_u⟩ w fz xs hc hfz hl hx
 refine Bw Try.func66 rfl w fz [] [] NX (fun p:(List Int)×Unit=>G3 p.1) _ xs hfz hl hx (jN rfl) ?_
 clear hx hl hfz xs
 simp only[Try.f66]
 have hc:l.length≤1000000:=hc
 cases h0:((l.length:Int)==0) with
 |true=>
  have hr:Ci l=[⟨false,0,[]⟩]:=if_pos h0
  simp only[↓eB,seval,go_sem,h0]
  refine A0 [.fz 10] ?_;simp only[↓eB,seval,go_sem,bne,G3,hr]
 |false=>
 have hr0:Ci l=l.map fun n=>⟨false,n,[]⟩:=if_neg (by rw[h0];decide)
 simp only[↓eB,seval,go_sem,h0]
 refine Ac (Y:=Nat) (fun i=>i≤l.length)
  (fun i=>⟨[(3,true,.one (.s 1000)),(11,true,.one (.d (.sl zIw (l.map iD)))),(12,true,.one (.v (.int .i64 (l.length:Int)))),(13,true,.one (.v (.int .i64 (i:Int))))],
   [(1000,.vec 0 LV ((LA l i).map Va.c))]⟩)
  (fun i=>l.length-i) 0 (Nat.zero_le _) ?_ ?_
 ·refine A2 [.nil 3 1000 LV] ?_;simp only[↓eB,seval,go_sem,LV,jw]
 ·rintro i hi
  refine Aq [] [] _ _ _ ?_
  have w1:IntKind.i64.wrap ((i:Int)+1)=((i+1:Nat):Int):=by rw[wrap_i64 (by omega) (by omega)];rfl
  cases hx:l[i]? with
  |none=>
   have g2:=List.getElem?_eq_none_iff.1 hx
   have g1:=BA g2
   have hr:Ci l=LA l i:=by unfold LA;rw[hr0,List.take_of_length_le g2]
   simp only[↓eB,seval,go_sem,g1]
   refine A0 [.fz 1000] ?_;simp only[↓eB,seval,go_sem,bne,G3,hr,LV]
  |some x=>
   have hlt:=(List.getElem?_eq_some_iff.1 hx).1
   have g1:=B9 hlt
   have hil:(i:Int)<(l.length:Int):=by omega
   have hs:=yh hx
   have hln:(LA l i).length=i:=by simp[LA];omega
   have ht:((LA l (i+1))).map Va.c=(LA l i).map Va.c++[[.v (.bool false),.v (.int .i64 x),.v (.string (bs []))]]:=by
    unfold LA;rw[List.take_add_one,hx];simp[Va.c]
   simp only[↓eB,seval,go_sem,g1,hs,w1]
   refine⟨hil,⟨⟨rfl,.inl rfl⟩,(fun q h=>by cases h;rfl),iU _ _ _,(by decide),(by omega),(by omega)⟩,i+1,hlt,(by omega),B4 (t:=⟨[(3,true,.one (.s 21)),(11,true,.one (.d (.sl zIw (l.map iD)))),(12,true,.one (.v (.int .i64 (l.length:Int)))),(13,true,.one (.v (.int .i64 ((i+1:Nat):Int))))],
    [(21,.vec 0 LV ((LA l (i+1)).map Va.c))]⟩) ?_ ?_⟩
   ·rw[ht]
    refine A2 [] ?_;simp only[↓eB,seval,go_sem,List.map_append,List.flatMap_append]
   ·refine A2 [.mv 21 1000] ?_;simp only[↓eB,seval,go_sem]
noncomputable def HE {X:Ctx} {w0:World}:Sy.Spec Try.prog X w0:=DG 66 Try.call66 NX (fun p:(List Int)×Unit=>R7 p.1) (fun p:(List Int)×Unit=>G3 p.1) XI Yy
end Go.Proofs.Ytjnnmindcbgjhaa
