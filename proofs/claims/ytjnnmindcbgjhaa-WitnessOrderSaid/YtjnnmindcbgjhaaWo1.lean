/- WitnessOrder: the text, its tree and what it comes to, plain. No conditions but those in each statement. -/
import Derived.Test.YtjnnmindcbgjhaaMk1
import Derived.Test.YtjnnmindcbgjhaaWl
set_option linter.unusedVariables false
set_option linter.unusedSimpArgs false
namespace Go.Proofs.Ytjnnmindcbgjhaa
open Go Go.Sy Go.RowKit
def sgT (n:Int):List UInt8:=if n<0 then 45::itT (0-n) else itT n
def sgC (n:Int):Cx:=if n<0 then .neg (.num (itT (0-n))) else .num (itT n)
def sgE (n:Int):Ex:=if n<0 then .mk 7 0 [] (.mk 0 (0-n) [] .nil .nil) .nil else .mk 0 n [] .nil .nil
theorem UK {n:Int} (h0:0≤n) (h1:n≤128):numO (itT n)∧dh (itT n)∧numW (itT n) 0=n:=rq h0 (by omega)
theorem xw {n:Int} (h:i8R n):Lz (sgT n) (sgC n).tk:=by
 obtain⟨h1,h2⟩:=h
 unfold sgT sgC
 split
 ·exact(iJ 45).wapp (Ys (UK (n:=0-n) (by omega) (by omega)).1)
 ·exact Ys (UK (by omega) (by omega)).1
theorem xx {n:Int} (h:i8R n):(sgC n).v=sgE n:=by
 obtain⟨h1,h2⟩:=h
 unfold sgC sgE
 split
 ·show Ex.mk 7 0 [] (.mk 0 (numW (itT (0-n)) 0) [] .nil .nil) .nil=_
  rw[(UK (n:=0-n) (by omega) (by omega)).2.2]
 ·show Ex.mk 0 (numW (itT n) 0) [] .nil .nil=_
  rw[(UK (n:=n) (by omega) (by omega)).2.2]
theorem jG {n:Int} (h:i8R n):(sgC n).wf∧(sgC n).nm∧(sgC n).dp≤1:=by
 obtain⟨h1,h2⟩:=h
 unfold sgC
 split
 ·exact⟨⟨rfl,trivial⟩,(UK (n:=0-n) (by omega) (by omega)).2.1,by show 0+1≤1;decide⟩
 ·exact⟨trivial,(UK (n:=n) (by omega) (by omega)).2.1,by show 0≤1;decide⟩
theorem R3 {n:Int} (h:i8R n):(sgT n).length≤23:=by
 obtain⟨h1,h2⟩:=h
 unfold sgT
 split
 ·have:=TO (n:=0-n) ⟨by omega,by omega⟩
  rw[List.length_cons];omega
 ·have:=TO (n:=n) ⟨by omega,by omega⟩
  omega
theorem A4B:Lw [102,110,32,102,40,120,44,32,121,41,32,123,32,105,102,32,40,120,32,61,61,32] [(0,[102,110]),(0,[102]),(2,[40]),(0,[120]),(2,[44]),(0,[121]),(2,[41]),(2,[123]),(0,[105,102]),(2,[40]),(0,[120]),(2,[61,61])]:=Lp.of (n:=19) (fun i=>[⟨0,[102,110],((i+0:Nat):Int)⟩,⟨0,[102],((i+3:Nat):Int)⟩,⟨2,[40],((i+4:Nat):Int)⟩,⟨0,[120],((i+5:Nat):Int)⟩,⟨2,[44],((i+6:Nat):Int)⟩,⟨0,[121],((i+8:Nat):Int)⟩,⟨2,[41],((i+9:Nat):Int)⟩,⟨2,[123],((i+11:Nat):Int)⟩,⟨0,[105,102],((i+13:Nat):Int)⟩,⟨2,[40],((i+16:Nat):Int)⟩,⟨0,[120],((i+17:Nat):Int)⟩,⟨2,[61,61],((i+19:Nat):Int)⟩]) (by decide) (fun _=>rfl) (fun f i r out=>by kernel_rfl)
theorem A4C:Lw [32,38,38,32,121,32,61,61,32] [(2,[38,38]),(0,[121]),(2,[61,61])]:=Lp.of (n:=7) (fun i=>[⟨2,[38,38],((i+1:Nat):Int)⟩,⟨0,[121],((i+4:Nat):Int)⟩,⟨2,[61,61],((i+6:Nat):Int)⟩]) (by decide) (fun _=>rfl) (fun f i r out=>by kernel_rfl)
theorem A4D:Lw [41,32,123,32,97,115,115,101,114,116,32,40,120,32,33,61,32,120,41,59,32,125,32] [(2,[41]),(2,[123]),(0,[97,115,115,101,114,116]),(2,[40]),(0,[120]),(2,[33,61]),(0,[120]),(2,[41]),(2,[59]),(2,[125])]:=Lp.of (n:=17) (fun i=>[⟨2,[41],((i+0:Nat):Int)⟩,⟨2,[123],((i+2:Nat):Int)⟩,⟨0,[97,115,115,101,114,116],((i+4:Nat):Int)⟩,⟨2,[40],((i+11:Nat):Int)⟩,⟨0,[120],((i+12:Nat):Int)⟩,⟨2,[33,61],((i+14:Nat):Int)⟩,⟨0,[120],((i+17:Nat):Int)⟩,⟨2,[41],((i+18:Nat):Int)⟩,⟨2,[59],((i+19:Nat):Int)⟩,⟨2,[125],((i+21:Nat):Int)⟩]) (by decide) (fun _=>rfl) (fun f i r out=>by kernel_rfl)
def woT (a b:Int):List UInt8:=((([102,110,32,102,40,120,44,32,121,41,32,123,32,105,102,32,40,120,32,61,61,32]++sgT a)++[32,38,38,32,121,32,61,61,32])++sgT b)++[41,32,123,32,97,115,115,101,114,116,32,40,120,32,33,61,32,120,41,59,32,125,32,125]
def woC (a b:Cx):Cf:=⟨[102],[⟨[120],false⟩,⟨[121],false⟩],[],[.ite (.and (.cmp 0 (.var [120]) a) (.cmp 0 (.var [121]) b)) [.ass (.cmp 1 (.var [120]) (.var [120]))] none]⟩
def woD (a b:Ex):Cd:=.mk 6 .nil .nil (.mk 0 (.mk 1 0 [120] .nil .nil) a .nil .nil []) (.mk 0 (.mk 1 0 [121] .nil .nil) b .nil .nil []) []
def woA:Cd:=.mk 1 (.mk 1 0 [120] .nil .nil) (.mk 1 0 [120] .nil .nil) .nil .nil []
def woS (C:Cd):Sm:=.mk 10 [] [] .nil .nil C [] [.mk 12 [] [] .nil .nil woA [] [] [] 1] [] 0
def woF (C:Cd):Fn:=⟨[102],[⟨[120],false⟩,⟨[121],false⟩],[],[woS C]⟩
def woP (C:Cd):Pg:=⟨⟨[],[]⟩,[woF C]⟩
theorem dO {a b:Int} (ha:i8R a) (hb:i8R b):(woT a b).length≤200:=by
 have:=R3 ha
 have:=R3 hb
 unfold woT
 simp only[jL3];omega
theorem VJ (s:List UInt8) (h:s=[120]∨s=[121]):nmO s:=by
 rcases h with rfl|rfl
 ·exact⟨by decide,(idn (by decide) (by decide)).1⟩
 ·exact⟨by decide,(idn (by decide) (by decide)).1⟩
theorem dP {a b:Int} (ha:i8R a) (hb:i8R b):GI (woT a b)=(woF (woD (sgE a) (sgE b)),0,0):=by
 have z:Lw (woT a b) (woC (sgC a) (sgC b)).tk:=((((((A4B.wapp (xw ha)).app A4C (rn 32 _)).wapp (xw hb)).app (A4D.wapp (iJ 125)) (rn 41 _))).cast rfl (by simp[woC,Cf.tk,psK,vrK,lsK,tkB,Cs.tk,Cc.tk,Cx.tk,cpT,cmpO,kO,tFn,tIf,RB]))
 obtain⟨T,e1,e2⟩:=rR z (by have:=dO ha hb;omega)
 obtain⟨a1,a2,a3⟩:=jG ha
 obtain⟨b1,b2,b3⟩:=jG hb
 have hx:lh [120]:=(VJ _ (.inl rfl)).2
 have hy:lh [121]:=(VJ _ (.inr rfl)).2
 have ok:(woC (sgC a) (sgC b)).ok:=⟨⟨by show DZ [102]=false;decide,(idn (s:=[102]) (by decide) (by decide)).1⟩,
  (fun v hv=>by
   have hv:v=⟨[120],false⟩∨v=⟨[121],false⟩:=by simpa [woC] using hv
   rcases hv with rfl|rfl
   ·exact VJ _ (.inl rfl)
   ·exact VJ _ (.inr rfl)),
  (fun v hv=>by cases hv),by show (2:Nat)≤6;decide,by show (0:Nat)≤20;decide,
  ⟨⟨⟨⟨by decide,by show DZ [120]=false;decide,a1,hx,a2,by intro h;cases h⟩,⟨by decide,by show DZ [121]=false;decide,b1,hy,b2,by intro h;cases h⟩,by show 0≤1;decide,rfl⟩,⟨⟨by decide,by show DZ [120]=false;decide,by show DZ [120]=false;decide,hx,hx,by intro h;cases h⟩,trivial⟩⟩,trivial⟩,
  by simp only[woC,dpB,Cs.dp,Cc.dp,Cx.dp];omega,by show ctB _≤200;exact jN rfl⟩
 rw[rN ok e1 e2]
 show ((⟨[102],[⟨[120],false⟩,⟨[121],false⟩],[],vB 0 (woC (sgC a) (sgC b)).body⟩:Fn),(0:Int),(0:Int))=_
 simp only[woC,vB,Cs.v,Cc.v,xx ha,xx hb]
 rfl
theorem VK (n:Int):(∃k,sgE n= .mk 7 0 [] (.mk 0 k [] .nil .nil) .nil)∨∃k,sgE n= .mk 0 k [] .nil .nil:=by
 unfold sgE
 split
 ·exact .inl ⟨_,rfl⟩
 ·exact .inr ⟨_,rfl⟩
theorem xy (n m:Int):P9 50 8 [woS (woD (sgE n) (sgE m))]=true:=by
 rcases VK n with⟨k,h⟩|⟨k,h⟩<;>rcases VK m with⟨j,g⟩|⟨j,g⟩<;>rw[h,g]<;>kernel_rfl
theorem A8z {a b:Int} (ha:i8R a) (hb:i8R b):okUn 50 8 kgl ⟨[102],woT a b⟩:=by
 refine cA (by decide) (by have:=dO ha hb;unfold Ed;omega) ?_
 rw[dP ha hb]
 show (true&&P9 50 8 [woS (woD (sgE a) (sgE b))])=true
 rw[xy];rfl
theorem A4E (n m:Int):Kp (woF (woD (sgE n) (sgE m))) [102] 8=(woF (woD (sgE n) (sgE m)),0,0):=by
 rcases VK n with⟨k,h⟩|⟨k,h⟩<;>rcases VK m with⟨j,g⟩|⟨j,g⟩<;>rw[h,g]<;>kernel_rfl
theorem A90 {a b:Int} (ha:i8R a) (hb:i8R b):prF 8 kgl [⟨[102],woT a b⟩]=woP (woD (sgE a) (sgE b)):=by
 show upP 8 kgl ⟨⟨[],[]⟩,[]⟩ ⟨[102],woT a b⟩=_
 unfold upP
 dsimp only
 rw[dP ha hb]
 dsimp only
 rw[A4E]
 rfl
theorem A4F (a b:Int):okPg 50 (woP (woD (sgE a) (sgE b))):=YG (M:=8) (by
 show (true&&((true&&P9 50 8 [woS (woD (sgE a) (sgE b))])&&true))=true
 rw[xy];rfl)
theorem A91 (a b:Int) (l:List Int) (hl:l.length≤1000000):okW 50 10 (woP (woD (sgE a) (sgE b))) l 9:=⟨A4F a b,Nat.zero_le _,Nat.zero_le _,(by intro x hx;cases hx),hl,by decide,by decide⟩
def woV (x y:Int):Vs:=[([120],⟨false,x,[]⟩),([121],⟨false,y,[]⟩)]
def woM:Ms:=⟨8,1,[],[],2,0,[],0,0⟩
def woN:Ms:=⟨7,1,[],[],2,0,[],0,0⟩
def woQ (C:Cd) (m:Ms) (x y:Int):Fa:=⟨[102],0,woP C,m,woV x y⟩
def woK (r:Ro):Ms:=rnZ (if r.b=true then (true,0,r.q.m) else (false,r.q.ret,{ r.q.m with deep:=w64i (r.q.m.deep-1) }))
def woR (r:Ro):Ro:=if r.b=true∨r.t=true then r else r.q.go
theorem A92 (C:Cd) (x y:Int):clF 10 (woP C) [102] [⟨false,x,[]⟩,⟨false,y,[]⟩] ⟨[],[]⟩ 9=woK (woR (stF 10 (woS C) { woQ C woM x y with m:={ woM with fuel:=9 } })):=by kernel_rfl
theorem A93 (C:Cd) (x y:Int):stF 10 (woS C) { woQ C woM x y with m:={ woM with fuel:=9 } }=match cdF (woP C) woM (woV x y) C with
  | .no j=>(woQ C woM x y).brk (woS C) j
  | .ok true=>woR (stF 9 (.mk 12 [] [] .nil .nil woA [] [] [] 1) (woQ C woM x y))
  | .ok false=>(woQ C woM x y).go:=by kernel_rfl
theorem A94 (C:Cd) (x y:Int):stF 9 (.mk 12 [] [] .nil .nil woA [] [] [] 1) (woQ C woM x y)=match cdF (woP C) woN (woV x y) woA with
  | .no j=>(woQ C woN x y).brk (.mk 12 [] [] .nil .nil woA [] [] [] 1) j
  | .ok true=>(woQ C woN x y).go
  | .ok false=>(woQ C woN x y).brk (.mk 12 [] [] .nil .nil woA [] [] [] 1) 3:=by kernel_rfl
theorem A95 (P:Pg) (x y:Int):cdF P woN (woV x y) woA= .ok (!(x==x)):=by kernel_rfl
theorem A96 (P:Pg) (x y:Int) (E:Ex) (v:Int) (h:evF P woM (woV x y) E= .ok v):cdF P woM (woV x y) (.mk 0 (.mk 1 0 [120] .nil .nil) E .nil .nil [])= .ok (x==v):=by
 have:cdF P woM (woV x y) (.mk 0 (.mk 1 0 [120] .nil .nil) E .nil .nil [])=match evF P woM (woV x y) E with
  | .no j=>.no j
  | .ok y=>.ok (x==y):=by kernel_rfl
 rw[this,h]
theorem A97 (P:Pg) (x y:Int) (E:Ex) (v:Int) (h:evF P woM (woV x y) E= .ok v):cdF P woM (woV x y) (.mk 0 (.mk 1 0 [121] .nil .nil) E .nil .nil [])= .ok (y==v):=by
 have:cdF P woM (woV x y) (.mk 0 (.mk 1 0 [121] .nil .nil) E .nil .nil [])=match evF P woM (woV x y) E with
  | .no j=>.no j
  | .ok z=>.ok (y==z):=by kernel_rfl
 rw[this,h]
theorem xz (P:Pg) (x y:Int) {n:Int} (h:i8R n):evF P woM (woV x y) (sgE n)= .ok n:=by
 obtain⟨h1,h2⟩:=h
 unfold sgE
 split
 ·show Ev.ok (w64i (0-(0-n)))=_
  rw[show (0:Int)-(0-n)=n by omega]
  unfold w64i;rw[wrap_i64 (by omega) (by omega)]
 ·rfl
theorem iA (P:Pg) (m:Ms) (vs:Vs) (a b:Ex) (p q:Cd) (s:List UInt8) (x:Bool) (h:cdF P m vs p= .ok x):cdF P m vs (.mk 6 a b p q s)=if x=true then cdF P m vs q else .ok false:=by
 cases x<;>simp only[cdF,h]<;>rfl
theorem A4G {a b:Int} (ha:i8R a) (hb:i8R b) (P:Pg) (x y:Int):cdF P woM (woV x y) (woD (sgE a) (sgE b))= .ok (x==a&&y==b):=by
 unfold woD
 rw[iA _ _ _ _ _ _ _ _ _ (A96 P x y _ a (xz P x y ha)),A97 P x y _ b (xz P x y hb)]
 cases x==a<;>rfl
def woG:Ms:=⟨7,1,[],[],1,0,[102],1,3⟩
def woZ:Ms:=⟨8,0,[],[],0,0,[],0,0⟩
theorem A4H (C:Cd) (x y:Int) (t:Bool) (h:cdF (woP C) woM (woV x y) C= .ok t):clF 10 (woP C) [102] [⟨false,x,[]⟩,⟨false,y,[]⟩] ⟨[],[]⟩ 9=if t=true then woG else woZ:=by
 rw[A92,A93,h]
 cases t with
 |true=>
  dsimp only
  rw[A94,A95,beq_self_eq_true]
  exact(by kernel_rfl:woK (woR (woR ((woQ C woN x y).brk (.mk 12 [] [] .nil .nil woA [] [] [] 1) 3)))=woG)
 |false=>exact(by kernel_rfl:woK (woR (woQ C woM x y).go)=woZ)
theorem jH {a b:Int} (ha:i8R a) (hb:i8R b) (x y:Int):clF 10 (woP (woD (sgE a) (sgE b))) [102] [⟨false,x,[]⟩,⟨false,y,[]⟩] ⟨[],[]⟩ 9=if (x==a&&y==b)=true then woG else woZ:=
 A4H _ x y _ (A4G ha hb (woP (woD (sgE a) (sgE b))) x y)
theorem XB (g:Nat→Ms):∀(r i k:Nat),JU g r i=some k→((g k).e==1)=true∧i≤k∧k<i+r
 |0,_,_,h=>by cases h
 |r+1,i,k,h=>by
  simp only[JU]at h
  split at h
  ·rename_i he
   obtain rfl:=Option.some.inj h
   exact⟨he,Nat.le_refl _,by omega⟩
  ·have:=XB g r (i+1) k h
   exact⟨this.1,by omega,by omega⟩
theorem dQ (g:Nat→Ms):∀(r i:Nat),JU g r i=none→∀k,i≤k→k<i+r→((g k).e==1)=false
 |0,_,_,k,h1,h2=>by omega
 |r+1,i,h,k,h1,h2=>by
  simp only[JU]at h
  split at h
  ·cases h
  ·rename_i he
   by_cases hk:k=i
   ·rw[hk];simpa using he
   ·exact dQ g r (i+1) h k (by omega) (by omega)
theorem Zz (l:List Int) (hl:0<l.length) (i:Nat) (hi:i<l.length*l.length):pkF [Ci l,Ci l] (i:Int)=[⟨false,l.getD (i / l.length) 0,[]⟩,⟨false,l.getD (i % l.length) 0,[]⟩]:=by
 have e:Ci l=l.map fun n=>(⟨false,n,[]⟩:Va):=by
  unfold Ci
  rw[if_neg (by simp only[beq_iff_eq];omega)]
 have hm:i % l.length<l.length:=Nat.mod_lt _ hl
 have hd:i / l.length<l.length:=(Nat.div_lt_iff_lt_mul hl).2 hi
 have ga:∀j,j<l.length→(Ci l).getD j va0=⟨false,l.getD j 0,[]⟩:=fun j hj=>by
  rw[e];simp[List.getD,hj]
 have hL:(Ci l).length=l.length:=by rw[e,List.length_map]
 show [(Ci l).getD (((i:Int).tdiv ((Ci l).length:Int)).tmod ((Ci l).length:Int)).toNat va0,(Ci l).getD ((i:Int).tmod ((Ci l).length:Int)).toNat va0]=_
 rw[hL,Int.tdiv_eq_ediv_of_nonneg (by omega),Int.tmod_eq_emod_of_nonneg (a:=(i:Int)) (by omega),Int.tmod_eq_emod_of_nonneg (a:=(i:Int) / (l.length:Int)) (Int.ediv_nonneg (by omega) (by omega))]
 rw[show ((i:Int) / (l.length:Int) % (l.length:Int)).toNat=i / l.length by
  rw[show (i:Int) / (l.length:Int) % (l.length:Int)=((i / l.length % l.length:Nat):Int) by simp,Int.toNat_natCast,Nat.mod_eq_of_lt hd]]
 rw[show ((i:Int) % (l.length:Int)).toNat=i % l.length by
  rw[show (i:Int) % (l.length:Int)=((i % l.length:Nat):Int) by simp,Int.toNat_natCast]]
 rw[ga _ hd,ga _ hm]
theorem dR (l:List Int) (hl:0<l.length) (h12:l.length≤12):(JT [Ci l,Ci l]).toNat=l.length*l.length:=by
 have hL:(Ci l).length=l.length:=by
  unfold Ci
  rw[if_neg (by simp only[beq_iff_eq];omega),List.length_map]
 have hm:l.length*l.length≤12*12:=Nat.mul_le_mul h12 h12
 have hm2:(l.length:Int)*(l.length:Int)=((l.length*l.length:Nat):Int):=by simp
 have hw:IntKind.i64.wrap ((l.length:Int)*(l.length:Int))=((l.length*l.length:Nat):Int):=by rw[hm2,wrap_i64 (by omega) (by omega)]
 unfold JT
 simp only[QK,hL]
 rw[if_neg (by simp only[decide_eq_true_eq];omega),if_neg (by simp only[decide_eq_true_eq];omega)]
 have w1:IntKind.i64.wrap (1*(l.length:Int))=(l.length:Int):=by rw[wrap_i64 (by omega) (by omega)];omega
 rw[w1]
 have m1:mn (l.length:Int) 2000=(l.length:Int):=by unfold mn;rw[if_neg (by omega)]
 rw[m1,hw]
 unfold mn
 rw[if_neg (by omega)]
 omega
theorem y5 {a b:Int} (ha:i8R a) (hb:i8R b) {l:List Int} (h12:l.length≤12) (h1:a∈l) (h2:b∈l):JV 10 (woP (woD (sgE a) (sgE b))) [102] 9 l=([⟨false,a,[]⟩,⟨false,b,[]⟩],woG,true):=by
 have hl:0<l.length:=List.length_pos_of_mem h1
 obtain⟨i,hi,ei⟩:=List.getElem_of_mem h1
 obtain⟨j,hj,ej⟩:=List.getElem_of_mem h2
 have hfr:Ns 10 (woP (woD (sgE a) (sgE b))) [102] 9 l=JU (QL 10 (woP (woD (sgE a) (sgE b))) [102] 9 l) (l.length*l.length) 0:=by
  rw[← dR l hl h12];rfl
 have hg:∀k,k<l.length*l.length→QL 10 (woP (woD (sgE a) (sgE b))) [102] 9 l k=if (l.getD (k / l.length) 0==a&&l.getD (k % l.length) 0==b)=true then woG else woZ:=fun k hk=>by
  rw[← jH ha hb]
  show clF 10 (woP (woD (sgE a) (sgE b))) [102] (pkF [Ci l,Ci l] (k:Int)) ⟨[],[]⟩ 9=_
  rw[Zz l hl k hk]
 have hij:i*l.length+j<l.length*l.length:=by
  have:(i+1)*l.length≤l.length*l.length:=Nat.mul_le_mul_right _ hi
  rw[Nat.add_mul]at this;omega
 unfold JV
 cases hf:Ns 10 (woP (woD (sgE a) (sgE b))) [102] 9 l with
 |none=>
  rw[hfr]at hf
  have:=dQ _ _ _ hf (i*l.length+j) (Nat.zero_le _) (by omega)
  rw[hg _ hij]at this
  have q1:(i*l.length+j) / l.length=i:=by rw[Nat.mul_comm,Nat.mul_add_div hl,Nat.div_eq_of_lt hj];rfl
  have q2:(i*l.length+j) % l.length=j:=by rw[Nat.mul_comm,Nat.mul_add_mod,Nat.mod_eq_of_lt hj]
  rw[q1,q2]at this
  simp[List.getD,hi,hj,ei,ej,woG]at this
 |some k=>
  rw[hfr]at hf
  obtain⟨k1,k2,k3⟩:=XB _ _ _ _ hf
  have hk:k<l.length*l.length:=by omega
  have hgk:=hg k hk
  rw[hgk]at k1
  split at k1
  ·rename_i hc
   rw[if_pos hc]at hgk
   simp only[Bool.and_eq_true,beq_iff_eq]at hc
   dsimp only
   rw[hgk]
   show (pkF [Ci l,Ci l] (k:Int),woG,true)=_
   rw[Zz l hl k hk,hc.1,hc.2]
  ·exact absurd k1 (by decide)
theorem A4I {a b:Int} (ha:i8R a) (hb:i8R b) {l:List Int} (hl:0<l.length) (h12:l.length≤12) (h:a∉l∨b∉l):JV 10 (woP (woD (sgE a) (sgE b))) [102] 9 l=([],PY,false):=by
 have hfr:Ns 10 (woP (woD (sgE a) (sgE b))) [102] 9 l=JU (QL 10 (woP (woD (sgE a) (sgE b))) [102] 9 l) (l.length*l.length) 0:=by
  rw[← dR l hl h12];rfl
 have hg:∀k,k<l.length*l.length→QL 10 (woP (woD (sgE a) (sgE b))) [102] 9 l k=if (l.getD (k / l.length) 0==a&&l.getD (k % l.length) 0==b)=true then woG else woZ:=fun k hk=>by
  rw[← jH ha hb]
  show clF 10 (woP (woD (sgE a) (sgE b))) [102] (pkF [Ci l,Ci l] (k:Int)) ⟨[],[]⟩ 9=_
  rw[Zz l hl k hk]
 unfold JV
 cases hf:Ns 10 (woP (woD (sgE a) (sgE b))) [102] 9 l with
 |none=>rfl
 |some k=>
  refine False.elim ?_
  rw[hfr]at hf
  obtain⟨k1,k2,k3⟩:=XB _ _ _ _ hf
  have hk:k<l.length*l.length:=by omega
  rw[hg k hk]at k1
  split at k1
  ·rename_i hc
   simp only[Bool.and_eq_true,beq_iff_eq]at hc
   have hm:k % l.length<l.length:=Nat.mod_lt _ hl
   have hd:k / l.length<l.length:=(Nat.div_lt_iff_lt_mul hl).2 hk
   simp only[List.getD,List.getElem?_eq_getElem hm,List.getElem?_eq_getElem hd,Option.getD_some]at hc
   rcases h with h|h
   ·exact h (hc.1▸List.getElem_mem hd)
   ·exact h (hc.2▸List.getElem_mem hm)
  ·exact absurd k1 (by decide)
end Go.Proofs.Ytjnnmindcbgjhaa
