/- The maker's pieces and their tokens. No conditions but those in each statement. -/
import Derived.Test.YtlaggppdgoknjaaGreatDoorCx5
import Derived.Test.YtlaggppdgoknjaaGreatDoorLz
import Derived.Test.YtlaggppdgoknjaaGreatDoorMk5
set_option linter.unusedVariables false
set_option linter.unusedSimpArgs false
namespace Go.Proofs.YtlaggppdgoknjaaGreatDoor
open Go Go.Sy Go.RowKit
theorem lw_eq:Lw [32,61,32] [(2,[61])]:=Lp.of (n:=3) (fun i=>[⟨2,[61],((i+1:Nat):Int)⟩]) (by decide) (fun _=>rfl) (fun f i r out=>by kernel_rfl)
theorem lw_se:Lw [59,32] [(2,[59])]:=Lp.of (n:=2) (fun i=>[⟨2,[59],((i+0:Nat):Int)⟩]) (by decide) (fun _=>rfl) (fun f i r out=>by kernel_rfl)
theorem lw_bc:Lw [93,59,32] [(2,[93]),(2,[59])]:=Lp.of (n:=3) (fun i=>[⟨2,[93],((i+0:Nat):Int)⟩,⟨2,[59],((i+1:Nat):Int)⟩]) (by decide) (fun _=>rfl) (fun f i r out=>by kernel_rfl)
theorem lw_be:Lw [93,32,61,32] [(2,[93]),(2,[61])]:=Lp.of (n:=4) (fun i=>[⟨2,[93],((i+0:Nat):Int)⟩,⟨2,[61],((i+2:Nat):Int)⟩]) (by decide) (fun _=>rfl) (fun f i r out=>by kernel_rfl)
theorem lw_pc:Lw [41,59,32] [(2,[41]),(2,[59])]:=Lp.of (n:=3) (fun i=>[⟨2,[41],((i+0:Nat):Int)⟩,⟨2,[59],((i+1:Nat):Int)⟩]) (by decide) (fun _=>rfl) (fun f i r out=>by kernel_rfl)
theorem lw_rt:Lw [114,101,116,117,114,110,32] [(0,[114,101,116,117,114,110])]:=Lp.of (n:=2) (fun i=>[⟨0,[114,101,116,117,114,110],((i+0:Nat):Int)⟩]) (by decide) (fun _=>rfl) (fun f i r out=>by kernel_rfl)
theorem lw_cb:Lw [123,32] [(2,[123])]:=Lp.of (n:=2) (fun i=>[⟨2,[123],((i+0:Nat):Int)⟩]) (by decide) (fun _=>rfl) (fun f i r out=>by kernel_rfl)
theorem lw_ce:Lw [125,32] [(2,[125])]:=Lp.of (n:=2) (fun i=>[⟨2,[125],((i+0:Nat):Int)⟩]) (by decide) (fun _=>rfl) (fun f i r out=>by kernel_rfl)
theorem lw_el:Lw [101,108,115,101,32] [(0,[101,108,115,101])]:=Lp.of (n:=2) (fun i=>[⟨0,[101,108,115,101],((i+0:Nat):Int)⟩]) (by decide) (fun _=>rfl) (fun f i r out=>by kernel_rfl)
theorem lw_po:Lw [41,32,45,32] [(2,[41]),(2,[45])]:=Lp.of (n:=4) (fun i=>[⟨2,[41],((i+0:Nat):Int)⟩,⟨2,[45],((i+2:Nat):Int)⟩]) (by decide) (fun _=>rfl) (fun f i r out=>by kernel_rfl)
theorem lw_aa:Lw [32,38,38,32] [(2,[38,38])]:=Lp.of (n:=3) (fun i=>[⟨2,[38,38],((i+1:Nat):Int)⟩]) (by decide) (fun _=>rfl) (fun f i r out=>by kernel_rfl)
theorem lw_or:Lw [41,32,124,124,32] [(2,[41]),(2,[124,124])]:=Lp.of (n:=4) (fun i=>[⟨2,[41],((i+0:Nat):Int)⟩,⟨2,[124,124],((i+2:Nat):Int)⟩]) (by decide) (fun _=>rfl) (fun f i r out=>by kernel_rfl)
theorem lw_cm:Lw [44,32] [(2,[44])]:=Lp.of (n:=2) (fun i=>[⟨2,[44],((i+0:Nat):Int)⟩]) (by decide) (fun _=>rfl) (fun f i r out=>by kernel_rfl)
theorem lw_pb:Lw [41,32] [(2,[41])]:=Lp.of (n:=2) (fun i=>[⟨2,[41],((i+0:Nat):Int)⟩]) (by decide) (fun _=>rfl) (fun f i r out=>by kernel_rfl)
theorem lw_e0:Lw [32,61,61,32] [(2,[61,61])]:=Lp.of (n:=3) (fun i=>[⟨2,[61,61],((i+1:Nat):Int)⟩]) (by decide) (fun _=>rfl) (fun f i r out=>by kernel_rfl)
theorem lw_e1:Lw [32,33,61,32] [(2,[33,61])]:=Lp.of (n:=3) (fun i=>[⟨2,[33,61],((i+1:Nat):Int)⟩]) (by decide) (fun _=>rfl) (fun f i r out=>by kernel_rfl)
theorem lw_o2:Lw [32,43,32] [(2,[43])]:=Lp.of (n:=3) (fun i=>[⟨2,[43],((i+1:Nat):Int)⟩]) (by decide) (fun _=>rfl) (fun f i r out=>by kernel_rfl)
theorem lw_o3:Lw [32,45,32] [(2,[45])]:=Lp.of (n:=3) (fun i=>[⟨2,[45],((i+1:Nat):Int)⟩]) (by decide) (fun _=>rfl) (fun f i r out=>by kernel_rfl)
theorem lw_o4:Lw [32,42,32] [(2,[42])]:=Lp.of (n:=3) (fun i=>[⟨2,[42],((i+1:Nat):Int)⟩]) (by decide) (fun _=>rfl) (fun f i r out=>by kernel_rfl)
theorem lw_o5:Lw [32,47,32] [(2,[47])]:=Lp.of (n:=3) (fun i=>[⟨2,[47],((i+1:Nat):Int)⟩]) (by decide) (fun _=>rfl) (fun f i r out=>by kernel_rfl)
theorem lw_o6:Lw [32,37,32] [(2,[37])]:=Lp.of (n:=3) (fun i=>[⟨2,[37],((i+1:Nat):Int)⟩]) (by decide) (fun _=>rfl) (fun f i r out=>by kernel_rfl)
theorem idn {s:List UInt8} (h:(match s with|c::t=>letB (c.toNat:Int)&&t.all (fun c=>idB (c.toNat:Int))|[]=>false)=true) (hl:s.length≤32):lh s∧Lz s [(0,s)]:=by
 cases s with
 |nil=>cases h
 |cons c t=>
  simp only[Bool.and_eq_true]at h
  have h1:lh (c::t):=⟨c,t,rfl,h.1⟩
  refine⟨h1,lz_nm h1 (fun d hd=>?_) hl⟩
  rcases List.mem_cons.1 hd with rfl|hd
  ·unfold idB;rw[h.1];rfl
  ·exact List.all_eq_true.1 h.2 d hd
structure nmQ (s:List UInt8):Prop where
 o:nmO s
 z:Lz s [(0,s)]
 n:s≠[]
 l:s.length≤1
theorem nmQ.of {s:List UInt8} (h:(match s with|c::t=>letB (c.toNat:Int)&&t.all (fun c=>idB (c.toNat:Int))|[]=>false)=true:=by decide) (hl:s.length≤1:=by decide) (hw:wordB s=false:=by decide):nmQ s:=by
 obtain⟨h1,h2⟩:=idn h (by omega)
 refine⟨⟨hw,h1⟩,h2,?_,hl⟩
 rintro rfl;cases h
def okK (m:Mk):Prop:=∀x∈m.b,0≤x∧x<256
theorem bytK {m:Mk} (h:okK m):0≤bytM m:=by
 unfold bytM
 split
 ·rw[List.getD_eq_getElem?_getD]
  cases hx:m.b[m.i.toNat]? with
  |none=>show 0≤w64i 0;decide
  |some x=>
   have:=h x (List.mem_of_getElem? hx)
   show 0≤w64i x
   unfold w64i;rw[wrap_i64 (by omega) (by omega)];exact this.1
 ·exact Int.le_refl _
theorem nxK {m:Mk} (h:okK m) {j:Int} (hj:0<j):0≤nxV j m∧nxV j m<j:=⟨Int.tmod_nonneg _ (bytK h),Int.tmod_lt_of_pos _ hj⟩
theorem nxK_t {m:Mk} (h:okK m) {j:Nat} (hj:0<j):(nxV (j:Int) m).toNat<j:=by
 have:=nxK h (j:=(j:Int)) (by omega)
 omega
structure Sm0 (m q:Mk):Prop where
 b:q.b=m.b
 n:q.n=m.n
theorem Sm0.ok {m q:Mk} (h:Sm0 m q) (k:okK m):okK q:=by unfold okK;rw[h.b];exact k
theorem Sm0.trans {m q r:Mk} (h:Sm0 m q) (k:Sm0 q r):Sm0 m r:=⟨k.b.trans h.b,k.n.trans h.n⟩
theorem Sm0.refl (m:Mk):Sm0 m m:=⟨rfl,rfl⟩
theorem sm_nx (m:Mk):Sm0 m (nxM m):=⟨rfl,rfl⟩
theorem iv_q {m:Mk} (h:okK m):nmQ (ivT' m).1∧Sm0 m (ivT' m).2:=by
 refine⟨?_,rfl,rfl⟩
 have:=nxK_t h (j:=6) (by decide)
 show nmQ (ivT.getD (nxV 6 m).toNat [])
 generalize (nxV 6 m).toNat=i at this
 match i,this with
 |0,_=>exact nmQ.of
 |1,_=>exact nmQ.of
 |2,_=>exact nmQ.of
 |3,_=>exact nmQ.of
 |4,_=>exact nmQ.of
 |5,_=>exact nmQ.of
theorem pv_q {m:Mk} (s:Int):nmQ (pvT s m).1∧Sm0 m (pvT s m).2:=by
 unfold pvT
 split
 ·split
  ·exact⟨(nmQ.of:nmQ [112]),rfl,rfl⟩
  ·exact⟨(nmQ.of:nmQ [113]),rfl,rfl⟩
 ·exact⟨(nmQ.of:nmQ [113]),rfl,rfl⟩
theorem cd_q {m:Mk} (h:okK m):nmQ (cdT.getD (nxV 2 m).toNat []):=by
 have:=nxK_t h (j:=2) (by decide)
 have e:((2:Nat):Int)=2:=rfl
 rw[e]at this
 generalize (nxV 2 m).toNat=i at this
 match i,this with
 |0,_=>exact nmQ.of
 |1,_=>exact nmQ.of
theorem tu_q {m:Mk} (h:okK m):nmQ (tuT.getD (nxV 2 m).toNat []):=by
 have:=nxK_t h (j:=2) (by decide)
 have e:((2:Nat):Int)=2:=rfl
 rw[e]at this
 generalize (nxV 2 m).toNat=i at this
 match i,this with
 |0,_=>exact nmQ.of
 |1,_=>exact nmQ.of
theorem nm_q {m:Mk} (h:okK m):nmQ (nmS (nxV 4 m)):=by
 have h2:=nxK h (j:=4) (by decide)
 unfold nmS
 have h3:(nxV 4 m).tmod 4=nxV 4 m:=Int.tmod_eq_of_lt h2.1 h2.2
 rw[h3]
 have h4:(nxV 4 m).toNat<4:=by omega
 generalize (nxV 4 m).toNat=i at h4
 match i,h4 with
 |0,_=>exact nmQ.of
 |1,_=>exact nmQ.of
 |2,_=>exact nmQ.of
 |3,_=>exact nmQ.of
structure nuQ (d:List UInt8):Prop where
 o:dh d
 z:Lz d [(1,d)]
 n:d≠[]
 l:d.length≤19
theorem nuQ.of {d:List UInt8} (h:d.all (fun c=>digB (c.toNat:Int))=true:=by decide) (hn:d≠[]:=by decide) (hz:d.length=1∨d.head?≠some 48:=by decide) (hg:(dgF d 0 false).2=false∧(dgF d 0 false).1≤9223372036854775807:=by decide) (hl:d.length≤19:=by decide):nuQ d:=by
 have h1:∀c∈d,digB (c.toNat:Int)=true:=fun c hc=>List.all_eq_true.1 h c hc
 refine⟨?_,lz_nu ⟨h1,hn,hz,hg⟩,hn,hl⟩
 cases d with
 |nil=>exact absurd rfl hn
 |cons c t=>exact⟨c,t,rfl,h1 c (by simp)⟩
theorem nu_q {m:Mk} (h:okK m):nuQ (nuT m).1∧Sm0 m (nuT m).2:=by
 refine⟨?_,rfl,rfl⟩
 have:=nxK_t h (j:=8) (by decide)
 show nuQ (numT.getD (nxV 8 m).toNat [])
 generalize (nxV 8 m).toNat=i at this
 match i,this with
 |0,_=>exact nuQ.of
 |1,_=>exact nuQ.of
 |2,_=>exact nuQ.of
 |3,_=>exact nuQ.of
 |4,_=>exact nuQ.of
 |5,_=>exact nuQ.of
 |6,_=>exact nuQ.of
 |7,_=>exact nuQ.of
def apx (c:Cx) (o:Int) (b:Cx):Cx:=
 match c with
 | .bin o' x y=>if o'≤3∧4≤o then .bin o' x (.bin o y b) else .bin o (.bin o' x y) b
 |c=>.bin o c b
theorem apx_tk (c:Cx) (o:Int) (b:Cx):(apx c o b).tk=c.tk++(2,opK o)::b.tk:=by
 unfold apx
 split
 ·split<;>simp[Cx.tk]
 ·rfl
theorem apx_dp (c:Cx) (o:Int) (b:Cx):(apx c o b).dp=max c.dp b.dp:=by
 unfold apx
 split
 ·split
  ·simp only[Cx.dp];omega
  ·rfl
 ·rfl
theorem apx_ok {c:Cx} {o:Int} {s:List UInt8} (hc:exO c) (ho:o=2∨o=3∨o=4∨o=5∨o=6) (hs:nmO s):exO (apx c o (.var s)):=by
 have hb:(Cx.var s).wf:=hs.1
 unfold apx
 split
 ·rename_i o' x y
  obtain⟨w,n1,n2⟩:=hc
  split
  ·rename_i h
   refine⟨?_,n1,n2,hs.2⟩
   rcases w with⟨h1,h2,h3,h4⟩|⟨h1,_⟩
   ·refine .inl ⟨h1,?_,h3,.inr ⟨by omega,h2,rfl,h4,hb⟩⟩
    simp only[Cx.lv];rw[if_neg (by omega)];exact Nat.le_refl _
   ·omega
  ·rename_i h
   refine⟨?_,⟨n1,n2⟩,hs.2⟩
   by_cases h4:o≤3
   ·exact .inl ⟨by omega,Nat.zero_le _,w,hb⟩
   ·refine .inr ⟨by omega,?_,rfl,w,hb⟩
    simp only[Cx.lv];rw[if_neg (by omega)];exact Nat.le_refl _
 ·rename_i hne
  refine⟨?_,hc.2,hs.2⟩
  have hl:c.lv=0:=by
   cases c with
   |bin o' x y=>exact absurd rfl (hne o' x y)
   |_=>rfl
  by_cases h4:o≤3
  ·exact .inl ⟨by omega,Nat.zero_le _,hc.1,hb⟩
  ·exact .inr ⟨by omega,by omega,rfl,hc.1,hb⟩
structure suQ (k:Nat) (t:List UInt8) (c:Cx):Prop where
 o:exO c
 d:c.dp≤k
 z:Lz t c.tk
 n:t≠[]
 l:t.length≤19+6*k
theorem pS_c (c:UInt8) (q:List UInt8) (h:pS c=true:=by decide):∃d r,c::q=d::r∧pS d=true:=⟨c,q,rfl,h⟩
theorem op_q {m:Mk} (h:okK m):∃o:Int,(o=2∨o=3∨o=4∨o=5∨o=6)∧opT.getD (nxV 5 m).toNat []=opK o∧Lw ([32]++opK o++[32]) [(2,opK o)]:=by
 have:=nxK_t h (j:=5) (by decide)
 have e:((5:Nat):Int)=5:=rfl
 rw[e]at this
 generalize (nxV 5 m).toNat=i at this
 match i,this with
 |0,_=>exact⟨2,by omega,rfl,lw_o2⟩
 |1,_=>exact⟨3,by omega,rfl,lw_o3⟩
 |2,_=>exact⟨4,by omega,rfl,lw_o4⟩
 |3,_=>exact⟨5,by omega,rfl,lw_o5⟩
 |4,_=>exact⟨6,by omega,rfl,lw_o6⟩
theorem su_q:∀(k:Nat) {m:Mk},okK m→∃c,suQ k (sumT k m).1 c∧Sm0 m (sumT k m).2
 |0,m,h=>by
  have h1:=(sm_nx m).ok h
  simp only[sumT]
  split
  ·obtain⟨a,b⟩:=nu_q h1
   exact⟨.num _,⟨⟨trivial,a.o⟩,Nat.le_refl _,a.z,a.n,a.l⟩,(sm_nx m).trans b⟩
  ·obtain⟨a,b⟩:=iv_q h1
   exact⟨.var _,⟨⟨a.o.1,a.o.2⟩,Nat.le_refl _,a.z,a.n,by have:=a.l;omega⟩,(sm_nx m).trans b⟩
 |k+1,m,h=>by
  have h1:=(sm_nx m).ok h
  simp only[sumT]
  split
  ·obtain⟨a,b⟩:=nu_q h1
   exact⟨.num _,⟨⟨trivial,a.o⟩,Nat.zero_le _,a.z,a.n,by have:=a.l;omega⟩,(sm_nx m).trans b⟩
  split
  ·obtain⟨a,b⟩:=iv_q h1
   exact⟨.var _,⟨⟨a.o.1,a.o.2⟩,Nat.zero_le _,a.z,a.n,by have:=a.l;omega⟩,(sm_nx m).trans b⟩
  split
  ·obtain⟨a,b⟩:=iv_q h1
   refine⟨.neg (.var _),⟨⟨⟨rfl,a.o.1⟩,a.o.2⟩,by simp only[Cx.dp];omega,(lw_sg 45).wapp a.z,by simp,?_⟩,(sm_nx m).trans b⟩
   have:=a.l
   simp only[List.length_append,List.length_cons,List.length_nil];omega
  obtain⟨c,a,b⟩:=su_q k h1
  have h2:=b.ok h1
  split
  ·obtain⟨a2,b2⟩:=iv_q h2
   refine⟨apx (.par c) 3 (.var _),⟨apx_ok ⟨a.o.1,a.o.2⟩ (by omega) a2.o,?_,?_,by simp,?_⟩,(sm_nx m).trans (b.trans b2)⟩
   ·rw[apx_dp];have:=a.d;simp only[Cx.dp];omega
   ·rw[apx_tk]
    have e1:(Cx.par c).tk++(2,opK 3)::(Cx.var (ivT' (sumT k (nxM m)).2).1).tk=(([(2,[40])]++c.tk)++[(2,[41]),(2,[45])])++[(0,(ivT' (sumT k (nxM m)).2).1)]:=by simp[Cx.tk,opK]
    rw[e1]
    exact((((lw_sg 40).wapp a.z).app lw_po (pS_c _ _)).wapp a2.z)
   ·have:=a.l;have:=a2.l
    simp only[List.length_append,List.length_cons,List.length_nil];omega
  ·have h3:=(sm_nx (sumT k (nxM m)).2).ok h2
   obtain⟨a2,b2⟩:=iv_q h3
   obtain⟨o,ho,eo,lo⟩:=op_q h2
   refine⟨apx c o (.var _),⟨apx_ok a.o ho a2.o,?_,?_,?_,?_⟩,(sm_nx m).trans (b.trans ((sm_nx _).trans b2))⟩
   ·rw[apx_dp];have:=a.d;simp only[Cx.dp];omega
   ·rw[apx_tk,eo]
    have e1:c.tk++(2,opK o)::(Cx.var (ivT' (nxM (sumT k (nxM m)).2)).1).tk=(c.tk++[(2,opK o)])++[(0,(ivT' (nxM (sumT k (nxM m)).2)).1)]:=by simp[Cx.tk]
    have e2:((((sumT k (nxM m)).1++[32])++opK o)++[32])++(ivT' (nxM (sumT k (nxM m)).2)).1=((sumT k (nxM m)).1++([32]++opK o++[32]))++(ivT' (nxM (sumT k (nxM m)).2)).1:=by simp
    rw[e1,e2]
    exact(a.z.app lo (pS_c _ _)).wapp a2.z
   ·simp
   ·have:=a.l;have:=a2.l
    have h9:=opT_len (nxV 5 (sumT k (nxM m)).2).toNat
    simp only[List.length_append,List.length_cons,List.length_nil];omega
end Go.Proofs.YtlaggppdgoknjaaGreatDoor
