/- How many parameters, locals, statements there may be. No conditions but those in each statement. -/
import Derived.Test.YtodppgiaimihfabDoorCx5
import Derived.Test.YtodppgiaimihfabDoorLz
set_option linter.unusedVariables false
set_option linter.unusedSimpArgs false
namespace Go.Proofs.YtodppgiaimihfabDoor
open Go Go.Sy Go.RowKit
def Lq (t:List UInt8) (n:Nat) (o:Nat→List Tok):Prop:=n≤t.length∧∀(f i:Nat) (r:List UInt8) (out:List Tok),rxG (f+n) i (t++r) out=rxG f (i+t.length) r (out++o i)
theorem foldl_snoc (l out:List Tok):l.foldl (fun o t=>o++[t]) out=out++l:=by
 induction l generalizing out with
 |nil=>simp
 |cons a l ih=>simp[ih]
theorem Lq.of {t:List UInt8} {n:Nat} {o:Nat→List Tok} (hn:n≤t.length) (h:∀(f i:Nat) (r:List UInt8) (out:List Tok),rxG (f+n) i (t++r) out=rxG f (i+t.length) r ((o i).foldl (fun o t=>o++[t]) out)):Lq t n o:=
 ⟨hn,fun f i r out=>by rw[h,foldl_snoc]⟩
theorem Lq.app {t u:List UInt8} {n m:Nat} {o o':Nat→List Tok} (h:Lq t n o) (k:Lq u m o'):Lq (t++u) (n+m) (fun i=>o i++o' (i+t.length)):=by
 refine⟨by have:=h.1;have:=k.1;rw[List.length_append];omega,fun f i r out=>?_⟩
 rw[show f+(n+m)=(f+m)+n by omega,List.append_assoc,h.2,k.2,List.length_append,List.append_assoc,Nat.add_assoc]
theorem lq_last (t:List UInt8) (c:UInt8) (n:Nat) (o:Nat→List Tok) (hn:n≤t.length) (h:∀(f i:Nat) (r:List UInt8) (out:List Tok),rxG (f+1+n) i (t++(c::r)) out=rxG (f+1) (i+t.length) (c::r) ((o i).foldl (fun o t=>o++[t]) out))
  (h1:oneB signs (c.toNat:Int)=true:=by decide) (h2:(blB (c.toNat:Int)||(c.toNat:Int)==35||letB (c.toNat:Int)||digB (c.toNat:Int))=false:=by decide) (h3:(c==61||c==33||c==60||c==62||c==38||c==124)=false:=by decide):Lq (t++[c]) (n+1) (fun i=>o i++[⟨2,[c],((i+t.length:Nat):Int)⟩]):=by
 refine⟨by rw[List.length_append];exact Nat.add_le_add_right hn 1,fun f i r out=>?_⟩
 rw[List.append_assoc,show f+(n+1)=f+1+n by omega]
 show rxG (f+1+n) i (t++(c::r)) out=_
 rw[h,foldl_snoc,rxG_sg f _ c r _ h1 h2 ?_,List.length_append,List.append_assoc];rfl
 cases r with
 |nil=>unfold twB;rw[show decide (2≤[c].length)=false from rfl,Bool.false_and]
 |cons d q=>
  rw[twB_2]
  simp only[Bool.or_eq_false_iff]at h3
  obtain⟨⟨⟨⟨⟨a1,a2⟩,a3⟩,a4⟩,a5⟩,a6⟩:=h3
  rw[a1,a2,a3,a4,a5,a6];rfl
def rpL (t:List UInt8):Nat→List UInt8
 |0=>[]
 |k+1=>rpL t k++t
theorem rpL_hd (t:List UInt8):∀k,rpL t (k+1)=t++rpL t k
 |0=>by simp[rpL]
 |k+1=>by
  show rpL t (k+1)++t=t++(rpL t k++t)
  rw[rpL_hd t k,List.append_assoc]
theorem rpL_len (t:List UInt8):∀k,(rpL t k).length=k*t.length
 |0=>by simp[rpL]
 |k+1=>by rw[rpL,List.length_append,rpL_len t k,Nat.succ_mul]
def rO (o:Nat→List Tok) (d:Nat):Nat→Nat→List Tok
 |0,_=>[]
 |k+1,i=>o i++rO o d k (i+d)
theorem rO_app (o:Nat→List Tok) (d:Nat) (b:Nat):∀(a i:Nat),rO o d (a+b) i=rO o d a i++rO o d b (i+a*d)
 |0,i=>by simp[rO]
 |a+1,i=>by
  rw[show a+1+b=(a+b)+1 by omega]
  show o i++rO o d (a+b) (i+d)=o i++rO o d a (i+d)++_
  rw[rO_app o d b a,List.append_assoc,Nat.succ_mul,show i+d+a*d=i+(a*d+d) by omega]
theorem Lq.rep {t:List UInt8} {n:Nat} {o:Nat→List Tok} (h:Lq t n o):∀k,Lq (rpL t k) (k*n) (rO o t.length k)
 |0=>⟨by simp,fun f i r out=>by simp[rpL,rO]⟩
 |k+1=>by
  have ih:=Lq.rep h k
  rw[rpL_hd,show (k+1)*n=n+k*n by rw[Nat.succ_mul];omega]
  exact h.app ih
def rpH (ks:List Kt):Nat→List Kt
 |0=>[]
 |k+1=>ks++rpH ks k
theorem rpH_len (ks:List Kt):∀k,(rpH ks k).length=k*ks.length
 |0=>by simp[rpH]
 |k+1=>by rw[rpH,List.length_append,rpH_len ks k,Nat.succ_mul];omega
theorem rO_kt {o:Nat→List Tok} {d:Nat} {ks:List Kt} (h:∀i,(o i).map kt=ks):∀(k i:Nat),(rO o d k i).map kt=rpH ks k
 |0,i=>rfl
 |k+1,i=>by
  show (o i++rO o d k (i+d)).map kt=ks++rpH ks k
  rw[List.map_append,h,rO_kt h k]
theorem rx_q {t:List UInt8} {n:Nat} {o:Nat→List Tok} (h:Lq t n o) (hl:t.length≤4096):rxT t=(o 0,0,0):=by
 have hr:rxT t=rxG t.length 0 t []:=by
  unfold rxT
  rw[if_neg (by simp;omega),rxF_G _ _ _ _ (Nat.zero_le _)];rfl
 have h1:=h.1
 have a2:=h.2 (t.length-n) 0 [] []
 rw[List.append_nil,show t.length-n+n=t.length by omega]at a2
 rw[hr,a2]
 cases t.length-n<;>rfl
def oH (i:Nat):List Tok:=[⟨0,[102,110],((i+0:Nat):Int)⟩,⟨0,[102],((i+3:Nat):Int)⟩,⟨2,[40],((i+4:Nat):Int)⟩]
theorem lqH:Lq [102,110,32,102,40] 4 oH:=lq_last [102,110,32,102] 40 3 (fun i=>[⟨0,[102,110],((i+0:Nat):Int)⟩,⟨0,[102],((i+3:Nat):Int)⟩]) (by decide) (fun f i r out=>by kernel_rfl)
theorem ktH (i:Nat):(oH i).map kt=[(0,[102,110]),(0,[102]),(2,[40])]:=rfl
def oP (i:Nat):List Tok:=[⟨0,[112],((i+0:Nat):Int)⟩,⟨2,[44],((i+1:Nat):Int)⟩]
theorem lqP:Lq [112,44] 2 oP:=lq_last [112] 44 1 (fun i=>[⟨0,[112],((i+0:Nat):Int)⟩]) (by decide) (fun f i r out=>by kernel_rfl)
theorem ktP (i:Nat):(oP i).map kt=[(0,[112]),(2,[44])]:=rfl
def oL1 (i:Nat):List Tok:=[⟨0,[112],((i+0:Nat):Int)⟩,⟨2,[41],((i+1:Nat):Int)⟩,⟨2,[123],((i+2:Nat):Int)⟩]
theorem lqL1:Lq [112,41,123] 3 oL1:=lq_last [112,41] 123 2 (fun i=>[⟨0,[112],((i+0:Nat):Int)⟩,⟨2,[41],((i+1:Nat):Int)⟩]) (by decide) (fun f i r out=>by kernel_rfl)
theorem ktL1 (i:Nat):(oL1 i).map kt=[(0,[112]),(2,[41]),(2,[123])]:=rfl
def oL0 (i:Nat):List Tok:=[⟨2,[41],((i+0:Nat):Int)⟩,⟨2,[123],((i+1:Nat):Int)⟩]
theorem lqL0:Lq [41,123] 2 oL0:=lq_last [41] 123 1 (fun i=>[⟨2,[41],((i+0:Nat):Int)⟩]) (by decide) (fun f i r out=>by kernel_rfl)
def oV (i:Nat):List Tok:=[⟨0,[118,97,114],((i+0:Nat):Int)⟩,⟨0,[118],((i+4:Nat):Int)⟩,⟨2,[59],((i+5:Nat):Int)⟩]
theorem lqV:Lq [118,97,114,32,118,59] 4 oV:=lq_last [118,97,114,32,118] 59 3 (fun i=>[⟨0,[118,97,114],((i+0:Nat):Int)⟩,⟨0,[118],((i+4:Nat):Int)⟩]) (by decide) (fun f i r out=>by kernel_rfl)
theorem ktV (i:Nat):(oV i).map kt=[(0,[118,97,114]),(0,[118]),(2,[59])]:=rfl
def oS (i:Nat):List Tok:=[⟨0,[120],((i+0:Nat):Int)⟩,⟨2,[61],((i+1:Nat):Int)⟩,⟨1,[49],((i+2:Nat):Int)⟩,⟨2,[59],((i+3:Nat):Int)⟩]
theorem lqS:Lq [120,61,49,59] 4 oS:=lq_last [120,61,49] 59 3 (fun i=>[⟨0,[120],((i+0:Nat):Int)⟩,⟨2,[61],((i+1:Nat):Int)⟩,⟨1,[49],((i+2:Nat):Int)⟩]) (by decide) (fun f i r out=>by kernel_rfl)
theorem ktS (i:Nat):(oS i).map kt=[(0,[120]),(2,[61]),(1,[49]),(2,[59])]:=rfl
def oE (i:Nat):List Tok:=[⟨2,[125],((i+0:Nat):Int)⟩]
theorem lqE:Lq [125] 1 oE:=lq_last [] 125 0 (fun i=>[]) (by decide) (fun f i r out=>by kernel_rfl)
theorem ktE (i:Nat):(oE i).map kt=[(2,[125])]:=rfl
def prT:Nat→List UInt8
 |0=>[]
 |k+1=>(if k=0 then prT k else prT k++[44])++[112]
theorem prT_s:∀k,prT (k+1)=rpL [112,44] k++[112]
 |0=>rfl
 |k+1=>by
  show (if k+1=0 then prT (k+1) else prT (k+1)++[44])++[112]=_
  rw[if_neg (by omega),prT_s k]
  simp[rpL]
theorem prT_len:∀p,(prT p).length=2*p-1
 |0=>rfl
 |k+1=>by rw[prT_s,List.length_append,rpL_len];simp;omega
def pmT (p l n:Nat):List UInt8:=[102,110,32,102,40]++prT p++[41,123]++rpL [118,97,114,32,118,59] l++rpL [120,61,49,59] n++[125]
theorem pmT_len (p l n:Nat):(pmT p l n).length=8+(2*p-1)+6*l+4*n:=by
 unfold pmT
 simp only[List.length_append,prT_len,rpL_len,List.length_cons,List.length_nil];omega
def tkP:Nat→List Tok
 |0=>oL0 5
 |k+1=>rO oP 2 k 5++oL1 (5+k*2)
def pO (p:Nat):Nat:=7+(2*p-1)
def pmK (p l n:Nat):List Tok:=oH 0++tkP p++rO oV 6 l (pO p)++rO oS 4 n (pO p+l*6)++oE (pO p+l*6+n*4)
theorem pm_rx (p l n:Nat) (h:(pmT p l n).length≤4096):rxT (pmT p l n)=(pmK p l n,0,0):=by
 cases p with
 |zero=>
  have h1:=((((lqH.app lqL0).app (lqV.rep l)).app (lqS.rep n)).app lqE)
  have e:pmT 0 l n=[102,110,32,102,40]++[41,123]++rpL [118,97,114,32,118,59] l++rpL [120,61,49,59] n++[125]:=by simp[pmT,prT]
  rw[e]at h ⊢
  rw[rx_q h1 h]
  have c1:l*6+1+1+1+1+1+1+1=7+l*6:=by omega
  have c2:l*6+n*4+1+1+1+1+1+1+1=7+l*6+n*4:=by omega
  simp[pmK,tkP,pO,rpL_len]
  rw[c1,c2]
 |succ k=>
  have h1:=(((((lqH.app (lqP.rep k)).app lqL1).app (lqV.rep l)).app (lqS.rep n)).app lqE)
  have e:pmT (k+1) l n=[102,110,32,102,40]++rpL [112,44] k++[112,41,123]++rpL [118,97,114,32,118,59] l++rpL [120,61,49,59] n++[125]:=by simp[pmT,prT_s]
  rw[e]at h ⊢
  rw[rx_q h1 h]
  have a0:k*2+3+1+1+1+1+1=5+k*2+1+1+1:=by omega
  have a1:k*2+1+1+1+1+1=5+k*2:=by omega
  have a2:5+k*2+1+1+1=7+(2*(k+1)-1):=by omega
  have a3:k*2+(l*6+1+1+1)+1+1+1+1+1=7+(2*(k+1)-1)+l*6:=by omega
  have a4:k*2+(l*6+n*4+1+1+1)+1+1+1+1+1=7+(2*(k+1)-1)+l*6+n*4:=by omega
  simp[pmK,tkP,pO,rpL_len]
  rw[a0,a1,a2,a3,a4]
def atE (l:List Tok) (m:Nat):Int:=(l.getD (l.length-m) tk0).p
theorem atE_of (A:List Tok) (x:Tok) (R:List Tok):atE (A++x::R) (R.length+1)=x.p:=by
 unfold atE
 rw[List.length_append,List.length_cons,Nat.add_sub_cancel,List.getD,List.getElem?_append_right (Nat.le_refl _),Nat.sub_self];rfl
theorem fail_at {p:Pr} {a:Kt} {ts:List Kt} (h:Sfx p (a::ts)):(failP 53 p).e=53∧(failP 53 p).at'=atE p.l (ts.length+1):=by
 have hlt:=h.lt
 have h0:=h.ok.1
 have hl:=congrArg List.length h.t
 simp only[List.length_map,List.length_drop,List.length_cons]at hl
 unfold failP
 rw[if_pos (by rw[h.e];rfl)]
 refine⟨rfl,?_⟩
 show (if decide (p.i<(p.l.length:Int))=true then (tk p).p else p.en)=_
 rw[if_pos (decide_eq_true hlt)]
 unfold atE tk
 rw[show p.l.length-(ts.length+1)=p.i.toNat by omega]
theorem stop_at {p q:Pr} {c m:Int} (h:Nx p q) (h1:p.e=53) (h2:p.at'=m) (_hc:c=0):q.e=53∧q.at'=m:=by
 obtain⟨a,b⟩:=h.e (by rw[h1];decide)
 exact⟨a.trans h1,b.trans h2⟩
theorem par_bad:∀(j:Nat) (p:Pr) (acc:List Vr) (k:Nat) (ts:List Kt),acc.length+j=6→j<k→Sfx p (rpH [(0,[112]),kO 44] j++(0,[112])::ts)→(parL k acc p).2.e=53∧(parL k acc p).2.at'=atE p.l (ts.length+1)
 |0,p,acc,k,ts,ha,hk,h=>by
  obtain⟨k,rfl⟩:∃g,k=g+1:=⟨k-1,by omega⟩
  have h:Sfx p ((0,[112])::ts):=h
  have h1:isT [42] p=false:=by rw[h.isT];decide
  have h2:takP [42] p=p:=by unfold takP;rw[if_neg (by rw[h1];decide)]
  have hn:nameB p=true:=by rw[h.nameB];decide
  have hm:morP acc 6 p=failP 53 p:=by
   unfold morP morB
   rw[hn,if_pos]
   have:decide ((6:Int)≤(acc.length:Int))=true:=by rw[decide_eq_true_eq];omega
   rw[this];rfl
  obtain⟨f1,f2⟩:=fail_at h
  have hi:isT [41] (failP 53 p)=false:=by unfold Go.Proofs.YtodppgiaimihfabDoor.isT;rw[f1];rfl
  simp only[parL]
  rw[if_pos (by rw[h.e];rfl),h2,hm,if_neg (by rw[hi];decide)]
  have n1:=fail_nx 53 h.ok
  have n2:=wan_nx (t:=[44]) n1.ok
  exact stop_at (c:=0) (n2.trans (parL_nx k _ _ n2.ok)) f1 f2 rfl
 |j+1,p,acc,k,ts,ha,hk,h=>by
  obtain⟨k,rfl⟩:∃g,k=g+1:=⟨k-1,by omega⟩
  have h:Sfx p (vrK ⟨[112],false⟩++kO 44::(rpH [(0,[112]),kO 44] j++(0,[112])::ts)):=h
  obtain⟨q,e1,e2,e3⟩:=par_1 (v:=⟨[112],false⟩) (acc:=acc) (show nmO [112] from ⟨by decide,⟨112,[],rfl,by decide⟩⟩) (by omega) h
  have ih:=par_bad j (adv q) (acc++[⟨[112],false⟩]) k ts (by simp;omega) (by omega) e3.s.adv
  simp only[parL]
  rw[if_pos (by rw[h.e];rfl),e1,e2,if_neg (by rw[e3.s.isT];decide),e3.s.wan (by decide)]
  refine⟨ih.1,ih.2.trans ?_⟩
  rw[show (adv q).l=p.l from e3.l]
theorem loc_bad:∀(j:Nat) (p:Pr) (acc:List Vr) (k:Nat) (ts:List Kt),acc.length+j=20→j<k→Sfx p (rpH [(0,tVar),(0,[118]),kO 59] j++(0,tVar)::(0,[118])::ts)→(locL k acc p).2.e=53∧(locL k acc p).2.at'=atE p.l (ts.length+1)
 |0,p,acc,k,ts,ha,hk,h=>by
  obtain⟨k,rfl⟩:∃g,k=g+1:=⟨k-1,by omega⟩
  have h:Sfx p ((0,tVar)::(0,[118])::ts):=h
  have hb:locB p=true:=by unfold locB;rw[h.isT];rfl
  have hn:nameB (adv p)=true:=by rw[h.adv.nameB];decide
  have hm:morP acc 20 (adv p)=failP 53 (adv p):=by
   unfold morP morB
   rw[hn,if_pos]
   have:decide ((20:Int)≤(acc.length:Int))=true:=by rw[decide_eq_true_eq];omega
   rw[this];rfl
  obtain⟨f1,f2⟩:=fail_at h.adv
  simp only[locL]
  rw[if_pos hb,hm]
  have n1:=fail_nx 53 h.adv.ok
  have n2:=wan_nx (t:=[59]) n1.ok
  exact stop_at (c:=0) (n2.trans (locL_nx k _ _ n2.ok)) f1 f2 rfl
 |j+1,p,acc,k,ts,ha,hk,h=>by
  obtain⟨k,rfl⟩:∃g,k=g+1:=⟨k-1,by omega⟩
  have h:Sfx p ((0,tVar)::(0,[118])::kO 59::(rpH [(0,tVar),(0,[118]),kO 59] j++(0,tVar)::(0,[118])::ts)):=h
  have hB:morB acc 20 (adv p)=false:=by
   unfold morB
   have:decide ((20:Int)≤(acc.length:Int))=false:=by rw[decide_eq_false_iff_not];omega
   rw[this,Bool.and_false]
  have e1:locB p=true:=by unfold locB;rw[h.isT];rfl
  have e4:morP acc 20 (adv p)=adv (adv p):=by
   unfold morP;rw[if_neg (by rw[hB];decide)];exact h.adv.nam (by decide)
  have eL:(morL acc (isT tPtr p) 20 (adv p)).length=acc.length+1:=by
   unfold morL;rw[if_neg (by rw[hB];decide)];simp
  have ih:=loc_bad j (adv (adv (adv p))) (morL acc (isT tPtr p) 20 (adv p)) k ts (by omega) (by omega) h.adv.adv.adv
  simp only[locL]
  rw[if_pos e1,e4,h.adv.adv.wan (by decide)]
  exact ih
theorem sts_e (st:Pr→R Sm) (k:Nat) (acc:List Sm) {p:Pr} (h:p.e≠0):(stmtsL st k acc p).2=p:=by
 cases k with
 |zero=>rfl
 |succ k=>simp only[stmtsL];rw[if_neg (by simpa using h)]
theorem sts_bad:∀(j:Nat) (p:Pr) (acc:List Sm) (k:Nat) (ts:List Kt),p.n+(j:Int)=200→0≤p.n→p.deep=1→j<k→Sfx p (rpH [(0,[120]),kO 61,(1,[49]),kO 59] j++(0,[120])::ts)→(stmtsL (stmF 41) k acc p).2.e=53∧(stmtsL (stmF 41) k acc p).2.at'=atE p.l (ts.length+1)
 |0,p,acc,k,ts,hn,h0,hd,hk,h=>by
  obtain⟨k,rfl⟩:∃g,k=g+1:=⟨k-1,by omega⟩
  have h:Sfx p ((0,[120])::ts):=h
  have hlt:=h.lt
  have hm:(stmF 41 p).2=failP 53 p:=by
   simp only[stmF]
   rw[if_pos]
   have:decide ((200:Int)≤p.n)=true:=by rw[decide_eq_true_eq];omega
   rw[this]
   unfold knoB
   rw[h.nameB];rfl
  obtain⟨f1,f2⟩:=fail_at h
  simp only[stmtsL]
  rw[if_pos (by rw[h.e];rfl),if_neg (by rw[h.isT];decide),if_neg (by simp;omega),hm,sts_e _ _ _ (by rw[f1];decide)]
  exact⟨f1,f2⟩
 |j+1,p,acc,k,ts,hn,h0,hd,hk,h=>by
  obtain⟨k,rfl⟩:∃g,k=g+1:=⟨k-1,by omega⟩
  have hh:∃a us,rpH [(0,[120]),kO 61,(1,[49]),kO 59] j++(0,[120])::ts=a::us∧noEl a:=by
   cases j with
   |zero=>exact⟨_,_,rfl,rfl⟩
   |succ j=>exact⟨_,_,rfl,rfl⟩
  obtain⟨a,us,e1,e2⟩:=hh
  have h:Sfx p ((Cs.asg [120] (.num [49])).tk++a::us):=by
   have h2:Sfx p ([(0,[120]),kO 61,(1,[49]),kO 59]++(rpH [(0,[120]),kO 61,(1,[49]),kO 59] j++(0,[120])::ts)):=h
   rw[e1]at h2;exact h2
  have hlt:=h.lt
  obtain⟨q,g1,g2⟩:=cs_stm (.asg [120] (.num [49])) 41 p a us ⟨⟨by decide,⟨120,[],rfl,by decide⟩⟩,⟨trivial,⟨49,[],rfl,by decide⟩⟩⟩ e2 ⟨by rw[hd];decide,by rw[hd];decide,h0,by show p.n+((1:Nat):Int)≤200;omega⟩ h
  have hs:=g2.s
  rw[← e1]at hs
  have hq:q.n=p.n+1:=g2.n
  have ih:=sts_bad j q (acc++[(stmF 41 p).1]) k ts (by omega) (by omega) (g2.d.trans hd) (by omega) hs
  have h3:Sfx p ((0,[120])::([kO 61,(1,[49]),kO 59]++a::us)):=h
  simp only[stmtsL]
  rw[if_pos (by rw[h.e];rfl),if_neg (by rw[h3.isT];decide),if_neg (by have:=h3.lt;simp;omega)]
  rw[g1]at ih ⊢
  refine⟨ih.1,ih.2.trans ?_⟩
  rw[g2.l]
theorem ope_ne {p:Pr} (h:p.e≠0):opeP p=p:=by
 have h1:isT [123] p=false:=by
  cases h2:isT [123] p with
  |false=>rfl
  |true=>exact absurd (isT_e h2).1 h
 unfold opeP
 rw[if_neg (by rw[h1];decide)]
 unfold failP
 rw[if_neg (by simpa using h)]
theorem locW_e {p:Pr} (h:p.e≠0):(locW p).2=p:=by
 have h1:locB p=false:=by
  cases h2:locB p with
  |false=>rfl
  |true=>exact absurd (locB_e h2).1 h
 unfold locW
 cases p.l.length with
 |zero=>rfl
 |succ k=>simp only[locL];rw[if_neg (by rw[h1];decide)]
theorem end_e {p:Pr} (h:p.e≠0):endP p=p:=by
 unfold endP
 rw[if_neg]
 intro h2
 simp only[Bool.and_eq_true,beq_iff_eq]at h2
 exact h h2.1
theorem fun_bad {s:List UInt8} {T:List Tok} {m:Int} (hr:rxT s=(T,0,0)) (h1:(fp6 T (s.length:Int)).e=53) (h2:(fp6 T (s.length:Int)).at'=m):funF s=(fn0,m,53):=by
 unfold funF
 rw[hr]
 dsimp only
 rw[if_neg (by decide),h1,if_pos (by decide),h2]
theorem bad5 {T:List Tok} {N m:Int} (h:(fp5 T N).2.e=53∧(fp5 T N).2.at'=m):(fp6 T N).e=53∧(fp6 T N).at'=m:=by
 unfold fp6
 rw[end_e (by rw[h.1];decide)];exact h
theorem bad4 {T:List Tok} {N m:Int} (h:(fp4 T N).2.e=53∧(fp4 T N).2.at'=m):(fp6 T N).e=53∧(fp6 T N).at'=m:=by
 refine bad5 ?_
 unfold fp5 bodS stmtsW
 rw[sts_e _ _ _ (by rw[h.1];decide)];exact h
theorem bad3 {T:List Tok} {N m:Int} (h:(fp3 T N).2.e=53∧(fp3 T N).2.at'=m):(fp6 T N).e=53∧(fp6 T N).at'=m:=by
 refine bad4 ?_
 have he:(fp3 T N).2.e≠0:=by rw[h.1];decide
 unfold fp4
 rw[ope_ne he,locW_e he];exact h
structure Hd (T:List Tok) (q:Pr) (ts:List Kt):Prop where
 s:Sfx q ts
 l:q.l=T
 d:q.deep=0
 n:q.n=0
theorem hd_s {T:List Tok} {N:Int} {ts:List Kt} (hok:okP (p0 T N)) (hT:T.map kt=(0,tFn)::(0,[102])::kO 40::ts):Hd T (hd2 T N) ts:=by
 have a0:Sfx (p0 T N) ((0,tFn)::(0,[102])::kO 40::ts):=⟨hok,rfl,by
  show (T.drop 0).map kt=_
  rw[List.drop_zero,hT]⟩
 have b1:hdP T N=adv (p0 T N):=a0.wan (by decide)
 have a1:=a0.adv
 rw[← b1]at a1
 have b2:namP (hdP T N)=adv (hdP T N):=a1.nam (by decide)
 have a2:=a1.adv
 have b3:hd2 T N=adv (adv (hdP T N)):=by
  unfold hd2;rw[b2];exact a2.wan (by decide)
 have a3:=a2.adv
 rw[← b3]at a3
 exact⟨a3,by rw[b3,b1];rfl,by rw[b3,b1];rfl,by rw[b3,b1];rfl⟩
abbrev vP:Vr:=⟨[112],false⟩
abbrev vV:Vr:=⟨[118],false⟩
abbrev cS1:Cs:=.asg [120] (.num [49])
abbrev kP:List Kt:=[(0,[112]),kO 44]
abbrev kV:List Kt:=[(0,tVar),(0,[118]),kO 59]
abbrev kS:List Kt:=[(0,[120]),kO 61,(1,[49]),kO 59]
theorem psK_r:∀k,psK (List.replicate (k+1) vP)=rpH kP k++[(0,[112]),kO 41]
 |0=>rfl
 |k+1=>by
  show vrK vP++kO 44::psK (List.replicate (k+1) vP)=kP++rpH kP k++_
  rw[psK_r k];simp[vrK]
theorem lsK_r:∀k,lsK (List.replicate k vV)=rpH kV k
 |0=>rfl
 |k+1=>by
  show lcK vV++lsK (List.replicate k vV)=kV++rpH kV k
  rw[lsK_r k];rfl
theorem tkB_r:∀k,tkB (List.replicate k cS1)=rpH kS k
 |0=>rfl
 |k+1=>by
  show cS1.tk++tkB (List.replicate k cS1)=kS++rpH kS k
  rw[tkB_r k];rfl
theorem wfB_r:∀k,wfB (List.replicate k cS1)
 |0=>trivial
 |k+1=>⟨⟨⟨by decide,⟨120,[],rfl,by decide⟩⟩,⟨trivial,⟨49,[],rfl,by decide⟩⟩⟩,wfB_r k⟩
theorem dpB_r:∀k,dpB (List.replicate k cS1)=0
 |0=>rfl
 |k+1=>by
  show max 0 (dpB (List.replicate k cS1))=0
  rw[dpB_r k];rfl
theorem ctB_r:∀k,ctB (List.replicate k cS1)=k
 |0=>rfl
 |k+1=>by
  show 1+ctB (List.replicate k cS1)=k+1
  rw[ctB_r k];omega
theorem vB_r:∀(k:Nat) (n:Int),(vB n (List.replicate k cS1)).length=k
 |0,n=>rfl
 |k+1,n=>by
  show (vB (n+(cS1.ct:Int)) (List.replicate k cS1)).length+1=k+1
  rw[vB_r k]
theorem tkP_k (p:Nat):(tkP p).map kt=psK (List.replicate p vP)++[kO 123]:=by
 cases p with
 |zero=>rfl
 |succ k=>
  rw[psK_r]
  show (rO oP 2 k 5++oL1 (5+k*2)).map kt=_
  rw[List.map_append,rO_kt ktP,ktL1];simp[kO]
theorem pmK_k (p l n:Nat):(pmK p l n).map kt=(0,tFn)::(0,[102])::kO 40::(psK (List.replicate p vP)++kO 123::(rpH kV l++(rpH kS n++[kO 125]))):=by
 unfold pmK
 rw[List.map_append,List.map_append,List.map_append,List.map_append,ktH,tkP_k,rO_kt ktV,rO_kt ktS,ktE]
 simp[kO]
theorem pm_len {p l n:Nat} (hp:p≤8) (hl:l≤23) (hn:n≤204):(pmT p l n).length≤4096:=by rw[pmT_len];omega
theorem nm1 {s:List UInt8} {v:Vr} {k:Nat} (h:nmO s) (hv:v∈List.replicate k (⟨s,false⟩:Vr)):nmO v.s:=by
 rw[List.eq_of_mem_replicate hv];exact h
theorem nmF:nmO [102]:=⟨by decide,⟨102,[],rfl,by decide⟩⟩
theorem nmP:nmO [112]:=⟨by decide,⟨112,[],rfl,by decide⟩⟩
theorem nmV:nmO [118]:=⟨by decide,⟨118,[],rfl,by decide⟩⟩
theorem pm_good {p l n:Nat} (hp:p≤6) (hl:l≤20) (hn:n≤200):funF (pmT p l n)=(⟨[102],List.replicate p vP,List.replicate l vV,vB 0 (List.replicate n cS1)⟩,0,0):=by
 refine cf_fun (f:=⟨[102],List.replicate p vP,List.replicate l vV,List.replicate n cS1⟩) ⟨nmF,fun v hv=>nm1 nmP hv,fun v hv=>nm1 nmV hv,by simpa using hp,by simpa using hl,wfB_r n,by show dpB (List.replicate n cS1)≤39;rw[dpB_r];decide,by show ctB (List.replicate n cS1)≤200;rw[ctB_r];exact hn⟩ (pm_rx p l n (pm_len (by omega) (by omega) (by omega))) ?_
 rw[pmK_k]
 show _=(0,tFn)::(0,[102])::kO 40::(psK (List.replicate p vP)++kO 123::(lsK (List.replicate l vV)++(tkB (List.replicate n cS1)++[kO 125])))
 rw[lsK_r,tkB_r]
theorem pm_ok {p l n:Nat} (h:(pmT p l n).length≤4096):okP (p0 (pmK p l n) ((pmT p l n).length:Int)):=by
 have:=p0_ok (pmT p l n) ((pmT p l n).length:Int)
 rw[pm_rx p l n h]at this
 exact this
theorem pm_badP {p l n:Nat} (h7:6<p) (hp:p≤8) (hl:l≤23) (hn:n≤204):funF (pmT p l n)=(fn0,17,53):=by
 have hlen:=pm_len hp hl hn
 obtain⟨m,rfl⟩:∃m,p=(6+m)+1:=⟨p-7,by omega⟩
 have hr:=pm_rx (6+m+1) l n hlen
 obtain⟨R,hR⟩:∃R,rO oP 2 m 17++oL1 (5+(6+m)*2)++rO oV 6 l (pO (6+m+1))++rO oS 4 n (pO (6+m+1)+l*6)++oE (pO (6+m+1)+l*6+n*4)=(⟨0,[112],17⟩:Tok)::R:=by
  cases m with
  |zero=>exact⟨_,rfl⟩
  |succ m=>exact⟨_,rfl⟩
 have hT:pmK (6+m+1) l n=(oH 0++rO oP 2 6 5)++(⟨0,[112],17⟩:Tok)::R:=by
  rw[← hR]
  show oH 0++(rO oP 2 (6+m) 5++oL1 (5+(6+m)*2))++_++_++_=_
  rw[rO_app]
  simp only[List.append_assoc]
 have hk:(pmK (6+m+1) l n).map kt=(0,tFn)::(0,[102])::kO 40::(rpH kP 6++(0,[112])::R.map kt):=by
  rw[hT,List.map_append,List.map_append,ktH,rO_kt ktP];rfl
 have H:=hd_s (pm_ok hlen) hk
 have h0:isT [41] (hd2 (pmK (6+m+1) l n) ((pmT (6+m+1) l n).length:Int))=false:=by
  have hs:Sfx (hd2 (pmK (6+m+1) l n) ((pmT (6+m+1) l n).length:Int)) ((0,[112])::(kO 44::(rpH kP 5++(0,[112])::R.map kt))):=H.s
  rw[hs.isT];decide
 have hb:=par_bad 6 _ [] ((hd2 (pmK (6+m+1) l n) ((pmT (6+m+1) l n).length:Int)).l.length+1) (R.map kt) rfl (by
  rw[H.l,hT];simp only[List.length_append,List.length_cons];have:(rO oP 2 6 5).length=12:=rfl;omega) H.s
 have h3:(fp3 (pmK (6+m+1) l n) ((pmT (6+m+1) l n).length:Int)).2.e=53∧(fp3 (pmK (6+m+1) l n) ((pmT (6+m+1) l n).length:Int)).2.at'=17:=by
  unfold fp3 parW
  rw[if_neg (by rw[h0];decide)]
  refine⟨hb.1,hb.2.trans ?_⟩
  rw[H.l,hT,List.length_map,atE_of]
 obtain⟨x,y⟩:=bad3 h3
 exact fun_bad hr x y
theorem pm_hd {p l n:Nat} {ts:List Kt} {T:List Tok} {N:Int} (hp:p≤6) (hok:okP (p0 T N)) (hk:T.map kt=(0,tFn)::(0,[102])::kO 40::(psK (List.replicate p vP)++kO 123::ts)):∃q,fp3 T N=(List.replicate p vP,q)∧Sfx (opeP q) ts∧(opeP q).l=T∧(opeP q).deep=1∧(opeP q).n=0:=by
 have H:=hd_s hok hk
 obtain⟨q3,c1,c2⟩:=parW_c (fun v hv=>nm1 nmP hv) (by simpa using hp) H.s
 have d3:q3.deep=0:=by rw[c2.d,H.d]
 have n3:q3.n=0:=by rw[c2.n,H.n]
 obtain⟨o1,o2,o3⟩:=opn_s c2.s (by rw[d3];decide)
 have b5:opeP q3=adv (opnP q3):=by
  unfold opeP;rw[if_pos (by rw[c2.s.isT];decide),if_pos o1]
 refine⟨q3,c1,by rw[b5];exact o2.adv,?_,by rw[b5];show (opnP q3).deep=1;rw[o3,d3];rfl,by rw[ope_n,n3]⟩
 rw[b5]
 show (opnP q3).l=T
 rw[(opn_l c2.s.ok o1).2.1,c2.l,H.l]
theorem pm_badL {p l n:Nat} (hp:p≤6) (h20:20<l) (hl:l≤23) (hn:n≤204):funF (pmT p l n)=(fn0,(pO p:Int)+124,53):=by
 have hlen:=pm_len (show p≤8 by omega) hl hn
 obtain⟨m,rfl⟩:∃m,l=20+(m+1):=⟨l-21,by omega⟩
 have hr:=pm_rx p (20+(m+1)) n hlen
 obtain⟨R,hR⟩:∃R,R=(⟨2,[59],((pO p+20*6+5:Nat):Int)⟩:Tok)::(rO oV 6 m (pO p+20*6+6)++rO oS 4 n (pO p+(20+(m+1))*6)++oE (pO p+(20+(m+1))*6+n*4)):=⟨_,rfl⟩
 have hT:pmK p (20+(m+1)) n=(oH 0++tkP p++rO oV 6 20 (pO p)++[⟨0,tVar,((pO p+20*6+0:Nat):Int)⟩])++(⟨0,[118],((pO p+20*6+4:Nat):Int)⟩:Tok)::R:=by
  rw[hR]
  unfold pmK
  rw[rO_app]
  show oH 0++tkP p++(rO oV 6 20 (pO p)++(oV (pO p+20*6)++rO oV 6 m (pO p+20*6+6)))++_++_=_
  simp only[List.append_assoc];rfl
 have hk:(pmK p (20+(m+1)) n).map kt=(0,tFn)::(0,[102])::kO 40::(psK (List.replicate p vP)++kO 123::(rpH kV 20++(0,tVar)::(0,[118])::R.map kt)):=by
  rw[hT,List.map_append,List.map_append,List.map_append,List.map_append,ktH,tkP_k,rO_kt ktV]
  simp[kO,kt]
 obtain⟨q,c1,c2,c3,c4,c5⟩:=pm_hd (l:=0) (n:=0) hp (pm_ok hlen) hk
 have hb:=loc_bad 20 (opeP q) [] (opeP q).l.length (R.map kt) rfl (by
  rw[c3,hT];simp only[List.length_append,List.length_cons];have:(rO oV 6 20 (pO p)).length=60:=rfl;omega) c2
 have h4:(fp4 (pmK p (20+(m+1)) n) ((pmT p (20+(m+1)) n).length:Int)).2.e=53∧(fp4 (pmK p (20+(m+1)) n) ((pmT p (20+(m+1)) n).length:Int)).2.at'=(pO p:Int)+124:=by
  unfold fp4 locW
  rw[c1]
  refine⟨hb.1,hb.2.trans ?_⟩
  rw[c3,hT,List.length_map,atE_of]
  show ((pO p+20*6+4:Nat):Int)=_
  omega
 obtain⟨x,y⟩:=bad4 h4
 exact fun_bad hr x y
theorem pm_badS {p l n:Nat} (hp:p≤6) (hl:l≤20) (h200:200<n) (hn:n≤204):funF (pmT p l n)=(fn0,((pO p+l*6:Nat):Int)+800,53):=by
 have hlen:=pm_len (show p≤8 by omega) (show l≤23 by omega) hn
 obtain⟨m,rfl⟩:∃m,n=200+(m+1):=⟨n-201,by omega⟩
 have hr:=pm_rx p l (200+(m+1)) hlen
 obtain⟨b,hb⟩:∃b,b=pO p+l*6:=⟨_,rfl⟩
 obtain⟨R,hR⟩:∃R,R=(⟨2,[61],((b+200*4+1:Nat):Int)⟩:Tok)::(⟨1,[49],((b+200*4+2:Nat):Int)⟩:Tok)::(⟨2,[59],((b+200*4+3:Nat):Int)⟩:Tok)::(rO oS 4 m (b+200*4+4)++oE (b+(200+(m+1))*4)):=⟨_,rfl⟩
 have hT:pmK p l (200+(m+1))=(oH 0++tkP p++rO oV 6 l (pO p)++rO oS 4 200 b)++(⟨0,[120],((b+200*4+0:Nat):Int)⟩:Tok)::R:=by
  rw[hR]
  unfold pmK
  rw[← hb,rO_app]
  show oH 0++tkP p++rO oV 6 l (pO p)++(rO oS 4 200 b++(oS (b+200*4)++rO oS 4 m (b+200*4+4)))++_=_
  simp only[List.append_assoc];rfl
 have hk:(pmK p l (200+(m+1))).map kt=(0,tFn)::(0,[102])::kO 40::(psK (List.replicate p vP)++kO 123::(lsK (List.replicate l vV)++(rpH kS 200++(0,[120])::R.map kt))):=by
  rw[hT,List.map_append,List.map_append,List.map_append,List.map_append,ktH,tkP_k,rO_kt ktV,rO_kt ktS,lsK_r]
  simp[kO,kt]
 obtain⟨q,c1,c2,c3,c4,c5⟩:=pm_hd (l:=0) (n:=0) hp (pm_ok hlen) hk
 have l4:=c2.lenN
 have l5:=lsK_len (List.replicate l vV)
 rw[List.length_append]at l4
 obtain⟨q4,g1,g2⟩:=loc_c (List.replicate l vV) (opeP q) [] (opeP q).l.length (rpH kS 200++(0,[120])::R.map kt) (fun v hv=>nm1 nmV hv) (by simpa using hl) (by omega) c2 (fun q hq=>by
  have hs:Sfx q ((0,[120])::(([kO 61,(1,[49]),kO 59]++rpH kS 199)++(0,[120])::R.map kt)):=hq
  unfold locB;rw[hs.isT,hs.isT];decide)
 have hL:q4.l=pmK p l (200+(m+1)):=g2.l.trans c3
 have hbd:=sts_bad 200 q4 [] (q4.l.length+1) (R.map kt) (by rw[g2.n,c5];rfl) (by rw[g2.n,c5];decide) (g2.d.trans c4) (by
  rw[hL,hT];simp only[List.length_append,List.length_cons]
  have:(rO oS 4 200 b).length=800:=by
   have h:=congrArg List.length (rO_kt (d:=4) ktS 200 b)
   rw[List.length_map]at h;rw[h,rpH_len];rfl
  omega) g2.s
 have h5:(fp5 (pmK p l (200+(m+1))) ((pmT p l (200+(m+1))).length:Int)).2.e=53∧(fp5 (pmK p l (200+(m+1))) ((pmT p l (200+(m+1))).length:Int)).2.at'=((pO p+l*6:Nat):Int)+800:=by
  have b6:fp4 (pmK p l (200+(m+1))) ((pmT p l (200+(m+1))).length:Int)=(List.replicate l vV,q4):=by unfold fp4 locW;rw[c1];exact g1
  unfold fp5
  rw[b6]
  refine⟨hbd.1,hbd.2.trans ?_⟩
  show atE q4.l _=_
  rw[hL,hT,List.length_map,atE_of,← hb]
  show ((b+200*4+0:Nat):Int)=_
  omega
 obtain⟨x,y⟩:=bad5 h5
 exact fun_bad hr x y
end Go.Proofs.YtodppgiaimihfabDoor
