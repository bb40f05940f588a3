/- The program's lexer answers as the reference's. No conditions but those in each statement. -/
import Derived.Test.YtlaggppdgoknjaaGreatDoorLe2
set_option linter.unusedVariables false
set_option linter.unusedSimpArgs false
namespace Go.Proofs.YtlaggppdgoknjaaGreatDoor
open Go Go.Sy Go.RowKit
def dig (b:UInt8):Prop:=48≤b.toNat∧b.toNat≤57
theorem dig_iff (b:UInt8):digB (b.toNat:Int)=true↔dig b:=by
 unfold digB dig
 simp only[Bool.and_eq_true,decide_eq_true_eq]
 omega
def val:List UInt8→Nat→Nat
 |[],n=>n
 |b::r,n=>val r (10*n+(b.toNat-48))
theorem val_ge:∀(l:List UInt8) (n:Nat),n≤val l n
 |[],n=>Nat.le_refl _
 |b::r,n=>by
  have:=val_ge r (10*n+(b.toNat-48))
  simp only[val];omega
def gre (p:Int×Bool):Bool:=p.2||decide (9223372036854775807<p.1)
theorem gre_mk (n:Nat) (g:Bool):gre ((n:Int),g)=(g||decide (9223372036854775807<n)):=by
 unfold gre
 congr 1
 rw[Bool.eq_iff_iff];simp only[decide_eq_true_eq];omega
theorem dgF_val:∀(l:List UInt8) (n:Nat) (g:Bool),(∀b∈l,dig b)→n≤9223372036854775809→gre (dgF l (n:Int) g)=(g||decide (9223372036854775807<val l n))
 |[],n,g,_,_=>gre_mk n g
 |b::r,n,g,hd,hn=>by
  have hb:=hd b (List.mem_cons_self ..)
  have hr:∀c∈r,dig c:=fun c hc=>hd c (List.mem_cons_of_mem _ hc)
  have e0:dgF (b::r) (n:Int) g=if decide (922337203685477580<(n:Int))=true then dgF r (n:Int) true else dgF r (IntKind.u64.wrap (IntKind.u64.wrap (10*(n:Int))+IntKind.u64.wrap (IntKind.u8.wrap ((b.toNat:Int)-48)))) g:=by
   simp only[dgF]
   rw[if_pos ((dig_iff b).2 hb)]
  rw[e0,show val (b::r) n=val r (10*n+(b.toNat-48)) from rfl]
  unfold dig at hb
  by_cases h:922337203685477580<n
  ·rw[if_pos (by simp;omega),dgF_val r n true hr hn]
   have:=val_ge r (10*n+(b.toNat-48))
   rw[show decide (9223372036854775807<val r (10*n+(b.toNat-48)))=true by simp;omega]
   simp
  ·rw[if_neg (by simp;omega)]
   have e1:IntKind.u8.wrap ((b.toNat:Int)-48)=(b.toNat:Int)-48:=wrap_u8 (by omega) (by omega)
   have e2:IntKind.u64.wrap ((b.toNat:Int)-48)=(b.toNat:Int)-48:=wrap_u64 (by omega) (by omega)
   have e3:IntKind.u64.wrap (10*(n:Int))=10*(n:Int):=wrap_u64 (by omega) (by omega)
   rw[e1,e2,e3,wrap_u64 (by omega) (by omega)]
   have e4:10*(n:Int)+((b.toNat:Int)-48)=((10*n+(b.toNat-48):Nat):Int):=by omega
   rw[e4,dgF_val r _ g hr (by omega)]
theorem dgF_span:∀(l:List UInt8) (n:Int) (g:Bool),dgF l n g=dgF (l.take (spanN digB l)) n g
 |[],n,g=>rfl
 |b::r,n,g=>by
  simp only[dgF,spanN]
  cases h:digB (b.toNat:Int) with
  |true=>
   simp only[if_true,List.take_succ_cons,dgF,h]
   rw[dgF_span r n true,dgF_span r _ g]
  |false=>simp[dgF]
theorem span_all (p:Int→Bool):∀l:List UInt8,∀b∈l.take (spanN p l),p (b.toNat:Int)=true
 |[],b,h=>by simp at h
 |c::r,b,h=>by
  simp only[spanN]at h
  split at h
  ·rename_i hc
   simp only[List.take_succ_cons,List.mem_cons]at h
   rcases h with rfl|h
   ·exact hc
   ·exact span_all p r b h
  ·simp at h
theorem val_trim:∀l:List UInt8,val (trimB 48 l) 0=val l 0
 |[]=>rfl
 |b::r=>by
  unfold trimB
  simp only[spanN]
  cases h:isC 48 (b.toNat:Int) with
  |true=>
   have hb:b.toNat=48:=by simp only[isC,beq_iff_eq]at h;omega
   simp only[if_true,List.drop_succ_cons]
   have:=val_trim r
   unfold trimB at this
   rw[this]
   simp only[val,hb]
  |false=>rfl
theorem trim_head:∀l:List UInt8,trimB 48 l=[]∨∃b r,trimB 48 l=b::r∧b.toNat≠48
 |[]=>.inl rfl
 |b::r=>by
  unfold trimB
  simp only[spanN]
  cases h:isC 48 (b.toNat:Int) with
  |true=>
   simp only[if_true,List.drop_succ_cons]
   exact trim_head r
  |false=>
   refine .inr ⟨b,r,rfl,fun e=>?_⟩
   rw[e]at h;exact absurd h (by decide)
theorem val_hi:∀(l:List UInt8) (n:Nat),(∀b∈l,dig b)→val l n<(n+1)*10 ^ l.length
 |[],n,_=>by simp[val]
 |b::r,n,hd=>by
  have hb:=hd b (List.mem_cons_self ..)
  have:=val_hi r (10*n+(b.toNat-48)) fun c hc=>hd c (List.mem_cons_of_mem _ hc)
  unfold dig at hb
  simp only[val,List.length_cons]
  refine Nat.lt_of_lt_of_le this ?_
  rw[Nat.pow_succ,← Nat.mul_assoc,Nat.mul_right_comm]
  exact Nat.mul_le_mul_right _ (by omega)
theorem val_lo:∀(l:List UInt8) (n:Nat),n*10 ^ l.length≤val l n
 |[],n=>by simp[val]
 |b::r,n=>by
  have:=val_lo r (10*n+(b.toNat-48))
  simp only[val,List.length_cons]
  refine Nat.le_trans ?_ this
  rw[Nat.pow_succ,← Nat.mul_assoc,Nat.mul_right_comm]
  exact Nat.mul_le_mul_right _ (by omega)
theorem less_val:∀(a b:List UInt8) (n:Nat),a.length=b.length→(∀c∈a,dig c)→(∀c∈b,dig c)→(Op.bytesLess a b=true↔val a n<val b n)∧(a=b↔val a n=val b n)
 |[],[],n,_,_,_=>by simp[Op.bytesLess,val]
 |x::a,y::b,n,hl,ha,hb=>by
  have hx:=ha x (List.mem_cons_self ..)
  have hy:=hb y (List.mem_cons_self ..)
  have ha':∀c∈a,dig c:=fun c hc=>ha c (List.mem_cons_of_mem _ hc)
  have hb':∀c∈b,dig c:=fun c hc=>hb c (List.mem_cons_of_mem _ hc)
  have hl':a.length=b.length:=by simpa using hl
  unfold dig at hx hy
  simp only[Op.bytesLess,val]
  have hlt:∀(u v:List UInt8) (p q:UInt8),u.length=v.length→(∀c∈u,dig c)→48≤p.toNat→48≤q.toNat→p.toNat<q.toNat→val u (10*n+(p.toNat-48))<val v (10*n+(q.toNat-48)):=by
   intro u v p q huv hu hp hq hpq
   refine Nat.lt_of_lt_of_le (val_hi u _ hu) ?_
   rw[huv]
   exact Nat.le_trans (Nat.mul_le_mul_right _ (by omega)) (val_lo v _)
  have hUlt:(x<y)↔x.toNat<y.toNat:=UInt8.lt_iff_toNat_lt
  by_cases hxy:x.toNat<y.toNat
  ·have h1:=hlt a b x y hl' ha' (by omega) (by omega) hxy
   refine⟨⟨fun _=>h1,fun _=>by simp[hUlt.2 hxy]⟩,⟨fun e=>?_,fun e=>by omega⟩⟩
   simp only[List.cons.injEq]at e
   rw[e.1]at hxy;omega
  ·by_cases hyx:y.toNat<x.toNat
   ·have h1:=hlt b a y x hl'.symm hb' (by omega) (by omega) hyx
    have hne:x≠y:=by rintro rfl;omega
    refine⟨⟨fun h=>?_,fun h=>by omega⟩,⟨fun e=>?_,fun e=>by omega⟩⟩
    ·simp only[Bool.or_eq_true,decide_eq_true_eq,Bool.and_eq_true,beq_iff_eq,hUlt]at h
     rcases h with h|⟨h,_⟩
     ·omega
     ·exact absurd h hne
    ·simp only[List.cons.injEq]at e
     exact absurd e.1 hne
   ·have e:x=y:=UInt8.toNat_inj.1 (by omega)
    subst e
    obtain⟨i1,i2⟩:=less_val a b (10*n+(x.toNat-48)) hl' ha' hb'
    refine⟨?_,?_⟩
    ·rw[← i1]
     simp only[Bool.or_eq_true,decide_eq_true_eq,Bool.and_eq_true,beq_iff_eq,hUlt,true_and]
     exact⟨fun h=>h.resolve_left (by omega),.inr⟩
    ·rw[← i2];simp
theorem great_val:val great 0=9223372036854775807:=by decide
theorem great_dig:∀c∈great,dig c:=by unfold dig;decide
theorem great_eq (ds:List UInt8) (hd:∀b∈ds,dig b):(decide (19<((trimB 48 ds).length:Int))||(((trimB 48 ds).length:Int)==19&&!(Op.bytesLess (trimB 48 ds) great||trimB 48 ds==great)))=decide (9223372036854775807<val ds 0):=by
 have ht:∀b∈trimB 48 ds,dig b:=fun b hb=>hd b (List.mem_of_mem_drop hb)
 rw[← val_trim ds]
 have hh:=trim_head ds
 generalize trimB 48 ds=t at*
 rw[Bool.eq_iff_iff]
 simp only[Bool.or_eq_true,decide_eq_true_eq,Bool.and_eq_true,beq_iff_eq,Bool.not_eq_true',Bool.or_eq_false_iff]
 have hge:10 ^ (t.length-1)≤val t 0∨t=[]:=by
  rcases hh with rfl|⟨b,r,rfl,hb⟩
  ·exact .inr rfl
  ·left
   have hb2:=ht b (List.mem_cons_self ..)
   unfold dig at hb2
   simp only[val,List.length_cons,Nat.add_sub_cancel]
   refine Nat.le_trans ?_ (val_lo r _)
   exact Nat.le_mul_of_pos_left _ (by omega)
 have hlt:=val_hi t 0 ht
 rw[Nat.zero_add,Nat.one_mul]at hlt
 by_cases h20:20≤t.length
 ·have h1:10 ^ 19≤val t 0:=by
   rcases hge with h|h
   ·exact Nat.le_trans (Nat.pow_le_pow_right (by decide) (by omega)) h
   ·subst h;simp at h20
  constructor
  ·intro _;exact Nat.lt_of_lt_of_le (by decide) h1
  ·intro _;left;omega
 ·by_cases h19:t.length=19
  ·obtain⟨i1,i2⟩:=less_val t great 0 (by rw[h19];rfl) ht great_dig
   rw[great_val]at i1 i2
   constructor
   ·rintro (h|⟨_,h1,h2⟩)
    ·omega
    ·have n1:¬val t 0<9223372036854775807:=fun h=>by rw[i1.2 h]at h1;cases h1
     have n2:¬val t 0=9223372036854775807:=fun h=>by rw[i2.2 h]at h2;simp at h2
     omega
   ·intro h
    refine .inr ⟨by omega,?_,?_⟩
    ·cases hq:Op.bytesLess t great with
     |false=>rfl
     |true=>have:=i1.1 hq;omega
    ·cases hq:(t==great) with
     |false=>rfl
     |true=>have:=i2.1 (by simpa using hq);omega
  ·have h1:val t 0<10 ^ 18:=Nat.lt_of_lt_of_le hlt (Nat.pow_le_pow_right (by decide) (by omega))
   constructor
   ·rintro (h|⟨h,_⟩)<;>omega
   ·intro h
    have:(10:Nat) ^ 18≤9223372036854775807:=by decide
    omega
theorem chI_drop (s:List UInt8) (i j:Nat):chI (s.drop i) j=chI s (i+j):=by
 unfold chI;simp[List.getD,List.getElem?_drop]
theorem ixB_span:∀l:List UInt8,(Lib.indexByte l (Nat.toUInt8 10) = -1∧spanN nlB l=l.length)∨Lib.indexByte l (Nat.toUInt8 10)=(spanN nlB l:Nat)
 |[]=>.inl ⟨rfl,rfl⟩
 |b::r=>by
  have e:(b==Nat.toUInt8 10)=((b.toNat:Int)==10):=by
   rw[Bool.eq_iff_iff,beq_iff_eq,beq_iff_eq]
   constructor
   ·rintro rfl;rfl
   ·intro h;apply UInt8.toNat_inj.1;have:b.toNat=10:=by omega
    rw[this];rfl
  show (if (b==Nat.toUInt8 10)=true then 0 else if (Lib.indexByte r (Nat.toUInt8 10) == -1)=true then -1 else Lib.indexByte r (Nat.toUInt8 10)+1) = -1∧(if (!((b.toNat:Int)==10))=true then spanN nlB r+1 else 0)=r.length+1∨(if (b==Nat.toUInt8 10)=true then 0 else if (Lib.indexByte r (Nat.toUInt8 10) == -1)=true then -1 else Lib.indexByte r (Nat.toUInt8 10)+1)=((if (!((b.toNat:Int)==10))=true then spanN nlB r+1 else 0:Nat):Int)
  rw[e]
  generalize ((b.toNat:Int)==10)=X
  cases X with
  |true=>simp
  |false=>
   simp only[if_false,Bool.not_false,if_true,Bool.false_eq_true]
   rcases ixB_span r with⟨h1,h2⟩|h1
   ·left;rw[h1,h2];exact⟨rfl,rfl⟩
   ·right
    rw[h1]
    rw[if_neg (by rw[beq_iff_eq];omega)]
    rfl
theorem blk_cases (l:List UInt8) (h:0<l.length):(blB (chI l 0)=true∧blkI l=1)∨(blB (chI l 0)=false∧(chI l 0==35)=true∧blkI l=(spanN nlB l:Nat)∧0<spanN nlB l)∨(blB (chI l 0)=false∧(chI l 0==35)=false∧blkI l=0):=by
 unfold blkI
 cases h1:blB (chI l 0) with
 |true=>left;unfold blB at h1;rw[if_pos h1];exact⟨rfl,rfl⟩
 |false=>
  right
  unfold blB at h1
  rw[if_neg (by rw[h1];decide)]
  cases h2:(chI l 0==35) with
  |false=>right;exact⟨rfl,rfl,by simp⟩
  |true=>
   left
   refine⟨rfl,rfl,?_⟩
   rw[if_pos rfl]
   have hp:0<spanN nlB l:=by
    have:=spanN_at nlB h
    rw[List.drop_zero]at this
    have hc:((l.getD 0 0).toNat:Int)=35:=beq_iff_eq.1 h2
    rw[if_pos (show nlB _=true by show (!(((l.getD 0 0).toNat:Int)==10))=true;rw[hc];rfl)]at this
    omega
   rcases ixB_span l with⟨h3,h4⟩|h3
   ·rw[h3,if_neg (by decide),h4]
    exact⟨rfl,by omega⟩
   ·rw[h3,if_pos (by simp)]
    exact⟨rfl,hp⟩
theorem span_head (p:Int→Bool) {l:List UInt8} (h:0<l.length) (hp:p (chI l 0)=true):spanN p l=1+spanN p (l.drop 1):=by
 have:=spanN_at p h
 rw[List.drop_zero,if_pos hp,Nat.zero_add]at this
 omega
theorem signs_eq (c:Int) (h0:0≤c) (h1:c<256):decide (0≤Lib.indexByte signs c.toNat.toUInt8)=oneB signs c:=by
 obtain⟨n,rfl⟩:=Int.eq_ofNat_of_zero_le h0
 have hn:n<256:=by omega
 have key:∀l:List UInt8,decide (0≤Lib.indexByte l ((n:Int).toNat.toUInt8))=oneB l (n:Int):=by
  intro l
  induction l with
  |nil=>rfl
  |cons b r ih=>
   have e:(b==(n:Int).toNat.toUInt8)=((b.toNat:Int)==(n:Int)):=by
    rw[Int.toNat_natCast,Bool.eq_iff_iff,beq_iff_eq,beq_iff_eq]
    constructor
    ·rintro rfl;simp[Nat.toUInt8,UInt8.toNat_ofNat'];omega
    ·intro h;apply UInt8.toNat_inj.1
     have:b.toNat=n:=by omega
     simp[Nat.toUInt8,UInt8.toNat_ofNat'];omega
   simp only[Lib.indexByte,oneB,List.any_cons,e]
   by_cases h:((b.toNat:Int)==(n:Int))=true
   ·simp[h]
   ·simp only[h,if_false,Bool.false_or]
    rw[← show oneB r (n:Int)=r.any fun b=>((b.toNat:Nat):Int)==(n:Int) from rfl,← ih]
    have:=Lib.indexByte_ge r ((n:Int).toNat.toUInt8)
    by_cases h2:(Lib.indexByte r ((n:Int).toNat.toUInt8) == -1)=true
    ·rw[if_pos h2]
     simp only[beq_iff_eq]at h2
     rw[h2];rfl
    ·rw[if_neg h2]
     simp only[beq_iff_eq]at h2
     rw[Bool.eq_iff_iff];simp only[decide_eq_true_eq];omega
 exact key signs
theorem ch_rg (l:List UInt8) (i:Nat):0≤chI l i∧chI l i<256:=by
 have:=(l.getD i 0).toNat_lt
 unfold chI;omega
theorem let_not_dig {c:Int} (h:letB c=true):digB c=false:=by
 unfold letB at h;unfold digB
 simp only[Bool.or_eq_true,Bool.and_eq_true,decide_eq_true_eq,beq_iff_eq]at h
 rw[← Bool.not_eq_true]
 simp only[Bool.and_eq_true,decide_eq_true_eq]
 omega
theorem numE_eq (l:List UInt8) (h:0<l.length) (hd:digB (chI l 0)=true):numN l=spanN digB l∧numE l=if greB l=true then 53 else if (decide (((numN l:Nat):Int)<(l.length:Int))&&letB (chI l (numN l))||(chI l 0==48&&decide (1<((numN l:Nat):Int))))=true then 50 else 0:=by
 have hN:numN l=spanN digB l:=by rw[span_head digB h hd];rfl
 refine⟨hN,?_⟩
 unfold numE
 have hg:(decide (19<((numTl l).length:Int))||(((numTl l).length:Int)==19&&!(Op.bytesLess (numTl l) great||numTl l==great)))=greB l:=by
  unfold numTl greB
  have hdg:∀b∈l.take (numN l),dig b:=by
   intro b hb
   rw[hN]at hb
   exact(dig_iff b).1 (span_all digB l b hb)
  rw[great_eq _ hdg]
  have:=dgF_val (l.take (numN l)) 0 false hdg (by omega)
  rw[Bool.false_or]at this
  rw[← this]
  show gre _=gre (dgF l 0 false)
  rw[dgF_span l,hN];rfl
 rw[hg]
theorem opI_two (s:List UInt8) (i:Nat) (h:i<s.length):opI (s.drop i)=if twoB s i=true then 2 else if oneB signs (chI s i)=true then 1 else 0:=by
 unfold opI twoB
 have e:decide (2≤((s.drop i).length:Int))=decide (((i+2:Nat):Int)≤(s.length:Int)):=by
  rw[List.length_drop,Bool.eq_iff_iff];simp only[decide_eq_true_eq];omega
 have hr:=ch_rg (s.drop i) 0
 rw[e,signs_eq _ hr.1 hr.2,chI_drop]
 rfl
theorem lx_rx_at (s:List UInt8):∀(n i nx f:Nat) (out:List Tok),s.length-i=n→i≤nx→nx≤s.length→s.length-nx≤f→lxF s n i nx out=rxF s f nx out:=by
 intro n
 induction n with
 |zero=>
  intro i nx f out h1 h2 h3 h4
  simp only[lxF]
  cases f with
  |zero=>rfl
  |succ f=>simp only[rxF];rw[if_pos (by omega)]
 |succ n ih=>
  intro i nx f out h1 h2 h3 h4
  simp only[lxF]
  by_cases hx:i<nx
  ·rw[if_pos hx];exact ih (i+1) nx f out (by omega) hx h3 h4
  ·obtain rfl:i=nx:=by omega
   rw[if_neg hx]
   obtain⟨f,rfl⟩:∃g,f=g+1:=⟨f-1,by omega⟩
   simp only[rxF]
   have hlt:i<s.length:=by omega
   rw[if_neg (show ¬s.length≤i by omega)]
   have hl:0<(s.drop i).length:=by simp;omega
   have e0:chI s i=chI (s.drop i) 0:=by rw[chI_drop];rfl
   have hlen:(s.drop i).length=s.length-i:=List.length_drop ..
   rcases blk_cases (s.drop i) hl with⟨b1,b2⟩|⟨b1,b2,b3,b4⟩|⟨b1,b2,b3⟩
   ·rw[b2,if_pos (by decide),if_pos (show blB (chI s i)=true by rw[e0];exact b1)]
    exact ih (i+1) (i+1) f out (by omega) (by omega) (by omega) (by omega)
   ·have hk:=spanN_le nlB (s.drop i)
    rw[b3,if_pos (by simp;omega),if_neg (show ¬blB (chI s i)=true by rw[e0,b1];decide),if_pos (show (chI s i==35)=true by rw[e0];exact b2),Int.toNat_natCast]
    exact ih (i+1) _ f out (by omega) (by omega) (by omega) (by omega)
   ·rw[b3,if_neg (by decide),if_neg (show ¬blB (chI s i)=true by rw[e0,b1];decide),if_neg (show ¬(chI s i==35)=true by rw[e0,b2];decide)]
    cases hL:letB (chI s i) with
    |true=>
     have hL':letB (chI (s.drop i) 0)=true:=by rw[← e0];exact hL
     have hN:idN (s.drop i)=spanN idB (s.drop i):=by rw[span_head idB hl (show (letB _||digB _)=true by rw[hL'];rfl)];rfl
     have hk:=spanN_le idB (s.drop i)
     have hp:0<spanN idB (s.drop i):=by rw[← hN];unfold idN;omega
     have t1:tkE (s.drop i)=if decide (32<((spanN idB (s.drop i):Nat):Int))=true then 53 else 0:=by unfold tkE;rw[if_pos hL',hN]
     have t2:tkK (s.drop i)=0:=by unfold tkK;rw[if_pos hL']
     have t3:tkL (s.drop i)=if decide (32<((spanN idB (s.drop i):Nat):Int))=true then 0 else ((spanN idB (s.drop i):Nat):Int):=by unfold tkL;rw[if_pos hL',hN]
     rw[if_pos rfl,t1,t2,t3]
     cases hg:decide (32<((spanN idB (s.drop i):Nat):Int)) with
     |true=>rfl
     |false=>
      show lxF s n (i+1) (i+(((spanN idB (s.drop i):Nat):Int)).toNat) (out++[⟨0,(s.drop i).take (((spanN idB (s.drop i):Nat):Int)).toNat,(i:Int)⟩])=rxF s f (i+spanN idB (s.drop i)) (out++[⟨0,(s.drop i).take (spanN idB (s.drop i)),(i:Int)⟩])
      rw[Int.toNat_natCast]
      exact ih (i+1) _ f _ (by omega) (by omega) (by omega) (by omega)
    |false=>
     have hL':letB (chI (s.drop i) 0)=false:=by rw[← e0];exact hL
     rw[if_neg Bool.false_ne_true]
     cases hD:digB (chI s i) with
     |true=>
      have hD':digB (chI (s.drop i) 0)=true:=by rw[← e0];exact hD
      obtain⟨hN,hE⟩:=numE_eq (s.drop i) hl hD'
      have hk:=spanN_le digB (s.drop i)
      have hp:0<spanN digB (s.drop i):=by rw[← hN];unfold numN;omega
      have t1:tkE (s.drop i)=numE (s.drop i):=by unfold tkE;rw[if_neg (by rw[hL'];decide),if_pos hD']
      have t2:tkK (s.drop i)=numK (s.drop i):=by unfold tkK;rw[if_neg (by rw[hL'];decide),if_pos hD']
      have t3:tkL (s.drop i)=numL (s.drop i):=by unfold tkL;rw[if_neg (by rw[hL'];decide),if_pos hD']
      have e1:(decide (((numN (s.drop i):Nat):Int)<((s.drop i).length:Int))&&letB (chI (s.drop i) (numN (s.drop i)))||(chI (s.drop i) 0==48&&decide (1<((numN (s.drop i):Nat):Int))))=(decide (((i+spanN digB (s.drop i):Nat):Int)<(s.length:Int))&&letB (chI s (i+spanN digB (s.drop i)))||(chI s i==48&&decide (1<((spanN digB (s.drop i):Nat):Int)))):=by
       rw[hN,chI_drop,chI_drop,Nat.add_zero,hlen]
       congr 2
       rw[Bool.eq_iff_iff];simp only[decide_eq_true_eq];omega
      rw[e1]at hE
      rw[if_pos rfl,t1,t2,t3]
      unfold numK numL
      rw[hE,hN]
      cases hg:greB (s.drop i) with
      |true=>rfl
      |false=>
       generalize (decide (((i+spanN digB (s.drop i):Nat):Int)<(s.length:Int))&&letB (chI s (i+spanN digB (s.drop i)))||(chI s i==48&&decide (1<((spanN digB (s.drop i):Nat):Int))))=z
       cases z with
       |true=>rfl
       |false=>
        show lxF s n (i+1) (i+(((spanN digB (s.drop i):Nat):Int)).toNat) (out++[⟨1,(s.drop i).take (((spanN digB (s.drop i):Nat):Int)).toNat,(i:Int)⟩])=rxF s f (i+spanN digB (s.drop i)) (out++[⟨1,(s.drop i).take (spanN digB (s.drop i)),(i:Int)⟩])
        rw[Int.toNat_natCast]
        exact ih (i+1) _ f _ (by omega) (by omega) (by omega) (by omega)
     |false=>
      have hD':digB (chI (s.drop i) 0)=false:=by rw[← e0];exact hD
      have t1:tkE (s.drop i)=if (opI (s.drop i)==0)=true then 50 else 0:=by unfold tkE;rw[if_neg (by rw[hL'];decide),if_neg (by rw[hD'];decide)]
      have t2:tkK (s.drop i)=if (opI (s.drop i)==0)=true then 0 else 2:=by unfold tkK;rw[if_neg (by rw[hL'];decide),if_neg (by rw[hD'];decide)]
      have t3:tkL (s.drop i)=opI (s.drop i):=by unfold tkL;rw[if_neg (by rw[hL'];decide),if_neg (by rw[hD'];decide)]
      rw[if_neg Bool.false_ne_true,t1,t2,t3,opI_two s i hlt]
      cases hT:twoB s i with
      |true=>
       have h2:i+2≤s.length:=by
        have:=and_l hT
        simp only[decide_eq_true_eq]at this
        omega
       show lxF s n (i+1) (i+2) (out++[⟨2,(s.drop i).take 2,(i:Int)⟩])=rxF s f (i+2) (out++[⟨2,(s.drop i).take 2,(i:Int)⟩])
       exact ih (i+1) _ f _ (by omega) (by omega) (by omega) (by omega)
      |false=>
       cases hO:oneB signs (chI s i) with
       |true=>
        show lxF s n (i+1) (i+1) (out++[⟨2,(s.drop i).take 1,(i:Int)⟩])=rxF s f (i+1) (out++[⟨2,(s.drop i).take 1,(i:Int)⟩])
        exact ih (i+1) _ f _ (by omega) (by omega) (by omega) (by omega)
       |false=>rfl
theorem lx_rx (s:List UInt8):lxT s=rxT s:=by
 unfold lxT rxT
 split
 ·rfl
 ·exact lx_rx_at s s.length 0 0 s.length [] (by omega) (by omega) (by omega) (by omega)
end Go.Proofs.YtlaggppdgoknjaaGreatDoor
