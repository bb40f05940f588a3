/- The maker's small functions. No conditions but those in each statement. -/
import Derived.Test.YtbiepiggmagfcaaDoorSh1
import Derived.Test.YtbiepiggmagfcaaDoorCx5
import Derived.Test.YtbiepiggmagfcaaDoorLz
set_option linter.unusedVariables false
set_option linter.unusedSimpArgs false
namespace Go.Proofs.YtbiepiggmagfcaaDoor
open Go Go.Sy Go.RowKit
structure Mk where
 b:List Int
 i:Int
 n:Int
def byD (x:Int):List D:=[.v (.int .u8 x)]
def zBy:List D:=[.v (.int .u8 0)]
def Mk.c (p:Mk):List C:=[.d (.sl zBy (p.b.map byD)),.v (.int .i64 p.i),.v (.int .i64 p.n)]
theorem by_inj (a b:Int) (h:byD a=byD b):a=b:=by simpa [byD] using h
def nmT:List (List UInt8):=[[102],[103],[104],[107]]
def okM (m:Mk) (c:Int):Prop:=0≤m.i∧m.i+c≤4294967296∧∀x∈m.b,0≤x∧x<256
def bytM (m:Mk):Int:=if decide (m.i<(m.b.length:Int))=true then w64i (m.b.getD m.i.toNat 0) else 0
def nxV (j:Int) (m:Mk):Int:=(bytM m).tmod j
structure Ax (m q:Mk) (c:Int):Prop where
 lo:m.i≤q.i
 hi:q.i≤m.i+c
 b:q.b=m.b
theorem Ax.refl (m:Mk):Ax m m 0:=⟨Int.le_refl _,by omega,rfl⟩
theorem Ax.trans {m q r:Mk} {c d:Int} (h:Ax m q c) (h':Ax q r d):Ax m r (c+d):=⟨Int.le_trans h.lo h'.lo,by have:=h.hi;have:=h'.hi;omega,h'.b.trans h.b⟩
theorem Ax.mono {m q:Mk} {c d:Int} (h:Ax m q c) (hd:c≤d):Ax m q d:=⟨h.lo,by have:=h.hi;omega,h.b⟩
theorem Ax.ok {m q:Mk} {c d:Int} (h:Ax m q c) (ho:okM m (c+d)):okM q d:=⟨by have:=h.lo;have:=ho.1;omega,by have:=h.hi;have:=ho.2.1;omega,by rw[h.b];exact ho.2.2⟩
theorem okM.mono {m:Mk} {c d:Int} (h:okM m c) (hd:d≤c):okM m d:=⟨h.1,by have:=h.2.1;omega,h.2.2⟩
abbrev T:=List UInt8×Mk
end Go.Proofs.YtbiepiggmagfcaaDoor
namespace Go.Proofs.YtbiepiggmagfcaaDoor
open Go Go.Sy Go.RowKit
end Go.Proofs.YtbiepiggmagfcaaDoor
namespace Go.Proofs.YtbiepiggmagfcaaDoor
open Go Go.Sy Go.RowKit
def nmS (s:Int):List UInt8:=nmT.getD (s.tmod 4).toNat []
end Go.Proofs.YtbiepiggmagfcaaDoor
namespace Go.Proofs.YtbiepiggmagfcaaDoor
open Go Go.Sy Go.RowKit
def dcM (m:Mk):Mk:={ m with n:=w64i (m.n-1) }
end Go.Proofs.YtbiepiggmagfcaaDoor
namespace Go.Proofs.YtbiepiggmagfcaaDoor
open Go Go.Sy Go.RowKit
theorem leC_dd {c:C} {z z':List D} {es es':List (List D)} (h:leC c (.d (.sl z es))) (h':leC c (.d (.sl z' es'))):es=es':=by
 rcases h with rfl|⟨h1,h2⟩
 ·rcases h' with h|⟨h3,h4⟩
  ·simp only[C.d.injEq,D.sl.injEq]at h;exact h.2
  ·cases h3
 ·obtain rfl:=nilS_eq h1
  rcases h' with h|⟨h3,h4⟩
  ·cases h
  ·obtain⟨_,he⟩:=emS_eq h2
   obtain⟨_,he'⟩:=emS_eq h4
   simp only[C.d.injEq,D.sl.injEq]at he he'
   rw[he.2,he'.2]
noncomputable def cBy:Cod (List Int):=codOf (fun l=>.one (.d (.sl zBy (l.map byD)))) (fun v a b h h'=>by
 cases v with
 |one c=>exact map_inj by_inj (leC_dd h h')
 |agg l=>exact h.elim
 |tup l=>exact h.elim) (fun l=>rfl)
theorem cBy_e (l:List Int):cBy.e l= .one (.d (.sl zBy (l.map byD))):=rfl
theorem cBy_d (l:List Int):cBy.d (.one (.d (.sl [.v (.int .u8 0)] (l.map byD))))=some l:=codOf_le (e:=fun l:List Int=>.one (.d (.sl zBy (l.map byD)))) (leV_refl _)
def m0 (b:List Int):Mk:=⟨b,0,25⟩
end Go.Proofs.YtbiepiggmagfcaaDoor
namespace Go.Proofs.YtbiepiggmagfcaaDoor
open Go Go.Sy Go.RowKit
theorem lw_pc:Lw [41,59,32] [(2,[41]),(2,[59])]:=Lp.of (n:=3) (fun i=>[⟨2,[41],((i+0:Nat):Int)⟩,⟨2,[59],((i+1:Nat):Int)⟩]) (by decide) (fun _=>rfl) (fun f i r out=>by kernel_rfl)
theorem lw_aa:Lw [32,38,38,32] [(2,[38,38])]:=Lp.of (n:=3) (fun i=>[⟨2,[38,38],((i+1:Nat):Int)⟩]) (by decide) (fun _=>rfl) (fun f i r out=>by kernel_rfl)
theorem lw_e0:Lw [32,61,61,32] [(2,[61,61])]:=Lp.of (n:=3) (fun i=>[⟨2,[61,61],((i+1:Nat):Int)⟩]) (by decide) (fun _=>rfl) (fun f i r out=>by kernel_rfl)
theorem lw_e1:Lw [32,33,61,32] [(2,[33,61])]:=Lp.of (n:=3) (fun i=>[⟨2,[33,61],((i+1:Nat):Int)⟩]) (by decide) (fun _=>rfl) (fun f i r out=>by kernel_rfl)
theorem lw_o2:Lw [32,43,32] [(2,[43])]:=Lp.of (n:=3) (fun i=>[⟨2,[43],((i+1:Nat):Int)⟩]) (by decide) (fun _=>rfl) (fun f i r out=>by kernel_rfl)
theorem lw_o3:Lw [32,45,32] [(2,[45])]:=Lp.of (n:=3) (fun i=>[⟨2,[45],((i+1:Nat):Int)⟩]) (by decide) (fun _=>rfl) (fun f i r out=>by kernel_rfl)
theorem lw_o4:Lw [32,42,32] [(2,[42])]:=Lp.of (n:=3) (fun i=>[⟨2,[42],((i+1:Nat):Int)⟩]) (by decide) (fun _=>rfl) (fun f i r out=>by kernel_rfl)
theorem lw_o5:Lw [32,47,32] [(2,[47])]:=Lp.of (n:=3) (fun i=>[⟨2,[47],((i+1:Nat):Int)⟩]) (by decide) (fun _=>rfl) (fun f i r out=>by kernel_rfl)
theorem lw_o6:Lw [32,37,32] [(2,[37])]:=Lp.of (n:=3) (fun i=>[⟨2,[37],((i+1:Nat):Int)⟩]) (by decide) (fun _=>rfl) (fun f i r out=>by kernel_rfl)
theorem idn {s:List UInt8} (h:(match s with|c::t=>letB (c.toNat:Int)&&t.all (fun c=>idB (c.toNat:Int))|[]=>false)=true) (hl:s.length≤32):lh s∧Lz s [(0,s)]:=by
 cases s with
 |nil=>cases h
 |cons c t=>
  simp only[Bool.and_eq_true]at h
  have h1:lh (c::t):=⟨c,t,rfl,h.1⟩
  refine⟨h1,lz_nm h1 (fun d hd=>?_) hl⟩
  rcases List.mem_cons.1 hd with rfl|hd
  ·unfold idB;rw[h.1];rfl
  ·exact List.all_eq_true.1 h.2 d hd
structure nmQ (s:List UInt8):Prop where
 o:nmO s
 z:Lz s [(0,s)]
 n:s≠[]
 l:s.length≤1
theorem nmQ.of {s:List UInt8} (h:(match s with|c::t=>letB (c.toNat:Int)&&t.all (fun c=>idB (c.toNat:Int))|[]=>false)=true:=by decide) (hl:s.length≤1:=by decide) (hw:wordB s=false:=by decide):nmQ s:=by
 obtain⟨h1,h2⟩:=idn h (by omega)
 refine⟨⟨hw,h1⟩,h2,?_,hl⟩
 rintro rfl;cases h
def okK (m:Mk):Prop:=∀x∈m.b,0≤x∧x<256
theorem bytK {m:Mk} (h:okK m):0≤bytM m:=by
 unfold bytM
 split
 ·rw[List.getD_eq_getElem?_getD]
  cases hx:m.b[m.i.toNat]? with
  |none=>show 0≤w64i 0;decide
  |some x=>
   have:=h x (List.mem_of_getElem? hx)
   show 0≤w64i x
   unfold w64i;rw[wrap_i64 (by omega) (by omega)];exact this.1
 ·exact Int.le_refl _
theorem nxK {m:Mk} (h:okK m) {j:Int} (hj:0<j):0≤nxV j m∧nxV j m<j:=⟨Int.tmod_nonneg _ (bytK h),Int.tmod_lt_of_pos _ hj⟩
structure Sm0 (m q:Mk):Prop where
 b:q.b=m.b
 n:q.n=m.n
theorem Sm0.ok {m q:Mk} (h:Sm0 m q) (k:okK m):okK q:=by unfold okK;rw[h.b];exact k
theorem Sm0.trans {m q r:Mk} (h:Sm0 m q) (k:Sm0 q r):Sm0 m r:=⟨k.b.trans h.b,k.n.trans h.n⟩
theorem Sm0.refl (m:Mk):Sm0 m m:=⟨rfl,rfl⟩
theorem nm_q {m:Mk} (h:okK m):nmQ (nmS (nxV 4 m)):=by
 have h2:=nxK h (j:=4) (by decide)
 unfold nmS
 have h3:(nxV 4 m).tmod 4=nxV 4 m:=Int.tmod_eq_of_lt h2.1 h2.2
 rw[h3]
 have h4:(nxV 4 m).toNat<4:=by omega
 generalize (nxV 4 m).toNat=i at h4
 match i,h4 with
 |0,_=>exact nmQ.of
 |1,_=>exact nmQ.of
 |2,_=>exact nmQ.of
 |3,_=>exact nmQ.of
structure nuQ (d:List UInt8):Prop where
 o:dh d
 z:Lz d [(1,d)]
 n:d≠[]
 l:d.length≤19
theorem nuQ.of {d:List UInt8} (h:d.all (fun c=>digB (c.toNat:Int))=true:=by decide) (hn:d≠[]:=by decide) (hz:d.length=1∨d.head?≠some 48:=by decide) (hg:(dgF d 0 false).2=false∧(dgF d 0 false).1≤9223372036854775807:=by decide) (hl:d.length≤19:=by decide):nuQ d:=by
 have h1:∀c∈d,digB (c.toNat:Int)=true:=fun c hc=>List.all_eq_true.1 h c hc
 refine⟨?_,lz_nu ⟨h1,hn,hz,hg⟩,hn,hl⟩
 cases d with
 |nil=>exact absurd rfl hn
 |cons c t=>exact⟨c,t,rfl,h1 c (by simp)⟩
structure suQ (k:Nat) (t:List UInt8) (c:Cx):Prop where
 o:exO c
 d:c.dp≤k
 z:Lz t c.tk
 n:t≠[]
 l:t.length≤19+6*k
theorem pS_c (c:UInt8) (q:List UInt8) (h:pS c=true:=by decide):∃d r,c::q=d::r∧pS d=true:=⟨c,q,rfl,h⟩
end Go.Proofs.YtbiepiggmagfcaaDoor
namespace Go.Proofs.YtbiepiggmagfcaaDoor
open Go Go.Sy Go.RowKit
structure coQ (D N:Nat) (t:List UInt8) (c:Cc):Prop where
 w:c.wf
 d:c.dp≤D
 z:Lz t c.tk
 n:t≠[]
 l:t.length≤N
theorem cpT_len {o:Nat} (h:o<6):(cpT o).length≤2:=by
 match o,h with
 |0,_=>decide
 |1,_=>decide
 |2,_=>decide
 |3,_=>decide
 |4,_=>decide
 |5,_=>decide
def agN:List Cx→List Kt
 |[]=>[]
 |[c]=>c.tk
 |c::l=>c.tk++kO 44::agN l
structure agQ (t:List UInt8) (l:List Cx):Prop where
 o:∀e∈l,exO e
 d:agD l≤1
 z:Lz t (agN l)
 n:t≠[]
 l:t.length≤46
structure lfQ (m:Mk) (r:T) (s:Cs):Prop where
 w:s.wf
 d:s.dp≤3
 z:Lw r.1 s.tk
 c:s.ct=1
 l:r.1.length≤100
 q:Sm0 (dcM m) r.2
theorem Lp.cast {P:UInt8→Bool} {t u:List UInt8} {ts us:List Kt} (h:Lp P t ts) (e:t=u) (e2:ts=us):Lp P u us:=by subst e;subst e2;exact h
variable {B:Mk→T} {s:Int} {m:Mk}
end Go.Proofs.YtbiepiggmagfcaaDoor
