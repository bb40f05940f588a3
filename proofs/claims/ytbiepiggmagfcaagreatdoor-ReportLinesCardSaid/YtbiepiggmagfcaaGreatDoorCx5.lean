/- Functions as they are written: the parser reads each as what it says. No conditions but those in each statement. -/
import Derived.Test.YtbiepiggmagfcaaGreatDoorCx4
import Derived.Test.YtbiepiggmagfcaaGreatDoorPr1
import Derived.Test.YtbiepiggmagfcaaGreatDoorPs5
set_option linter.unusedVariables false
set_option linter.unusedSimpArgs false
open List (length_append length_cons length_nil)
namespace Go.Proofs.YtbiepiggmagfcaaGreatDoor
open Go Go.Sy Go.RowKit
structure Cf where
 name:List UInt8
 ps:List Vr
 ls:List Vr
 body:List Cs
def vrK (v:Vr):List Kt:=if v.p=true then [kO 42,(0,v.s)] else [(0,v.s)]
def psK:List Vr→List Kt
 |[]=>[kO 41]
 |[v]=>vrK v++[kO 41]
 |v::l=>vrK v++kO 44::psK l
def lcK (v:Vr):List Kt:=[(0,if v.p=true then tPtr else RK),(0,v.s),kO 59]
def lsK:List Vr→List Kt
 |[]=>[]
 |v::l=>lcK v++lsK l
def Cf.tk (f:Cf):List Kt:=(0,tFn)::(0,f.name)::kO 40::(psK f.ps++kO 123::(lsK f.ls++(tkB f.body++[kO 125])))
def Cf.v (f:Cf):Fn:=⟨f.name,f.ps,f.ls,vB 0 f.body⟩
structure Cf.ok (f:Cf):Prop where
 n:nmO f.name
 p:∀v∈f.ps,nmO v.s
 l:∀v∈f.ls,nmO v.s
 pl:f.ps.length≤6
 ll:f.ls.length≤20
 w:wfB f.body
 d:dpB f.body≤39
 c:ctB f.body≤200
structure Ad0 (p q:Pr) (ts:List Kt):Prop where
 s:Sfx q ts
 d:q.deep=p.deep
 l:q.l=p.l
 n:q.n=p.n
theorem mT {p:Pr} {v:Vr} {acc:List Vr} {ts:List Kt} (hv:nmO v.s) (ha:acc.length<6) (h:Sfx p (vrK v++ts)):∃q,Ce acc 6 (B4 [42] p)=q∧Dc acc (isT [42] p) 6 (B4 [42] p)=acc++[v]∧Ad0 p q ts:=by
 obtain⟨s,b⟩:=v
 have hB:∀q,O7 acc 6 q=false:=by
  intro q
  unfold O7
  have:decide ((6:Int)≤(acc.length:Int))=false:=by rw[decide_eq_false_iff_not];omega
  rw[this,Bool.and_false]
 cases b with
 |true=>
  have h:Sfx p (kO 42::(0,s)::ts):=h
  have h1:isT [42] p=true:=by rw[h.isT];decide
  have h2:B4 [42] p=adv p:=by unfold B4;rw[if_pos h1]
  rw[h1,h2]
  refine⟨adv (adv p),?_,?_,h.adv.adv,rfl,rfl,rfl⟩
  ·unfold Ce;rw[if_neg (by rw[hB];decide)];exact h.adv.nam hv.1
  ·unfold Dc;rw[if_neg (by rw[hB];decide),GT h.adv hv.1]
 |false=>
  have h:Sfx p ((0,s)::ts):=h
  have h1:isT [42] p=false:=by rw[h.isT,beq_eq_false_iff_ne.2 (lh_ne hv.2:s≠[42]),Bool.and_false]
  have h2:B4 [42] p=p:=by unfold B4;rw[if_neg (by rw[h1];decide)]
  rw[h1,h2]
  refine⟨adv p,?_,?_,h.adv,rfl,rfl,rfl⟩
  ·unfold Ce;rw[if_neg (by rw[hB];decide)];exact h.nam hv.1
  ·unfold Dc;rw[if_neg (by rw[hB];decide),GT h hv.1]
theorem mU:∀(l:List Vr) (p:Pr) (acc:List Vr) (k:Nat) (ts:List Kt),l≠[]→(∀v∈l,nmO v.s)→acc.length+l.length≤6→l.length≤k→Sfx p (psK l++ts)→∃q,KG k acc p=(acc++l,q)∧Ad0 p q ts
 |[],_,_,_,_,h,_,_,_,_=>absurd rfl h
 |[v],p,acc,k,ts,_,hv,ha,hk,h=>by
  obtain⟨k,rfl⟩:∃j,k=j+1:=⟨k-1,by simp only[length_cons]at hk;omega⟩
  have h:Sfx p (vrK v++kO 41::ts):=by simpa [psK] using h
  obtain⟨q,e1,e2,e3⟩:=mT (acc:=acc) (hv v (by simp)) (by simp only[length_cons,length_nil]at ha;omega) h
  refine⟨adv q,?_,e3.s.adv,e3.d,e3.l,e3.n⟩
  simp only[KG]
  rw[if_pos (by rw[h.e];rfl),e1,e2,if_pos (by rw[e3.s.isT];decide)]
 |v::u::l,p,acc,k,ts,_,hv,ha,hk,h=>by
  obtain⟨k,rfl⟩:∃j,k=j+1:=⟨k-1,by simp only[length_cons]at hk;omega⟩
  have h:Sfx p (vrK v++kO 44::(psK (u::l)++ts)):=by simpa [psK] using h
  obtain⟨q,e1,e2,e3⟩:=mT (acc:=acc) (hv v (by simp)) (by simp only[length_cons]at ha;omega) h
  obtain⟨q2,g1,g2⟩:=mU (u::l) (adv q) (acc++[v]) k ts (by simp) (fun w hw=>hv w (List.mem_cons_of_mem _ hw)) (by simp only[length_cons,length_append,length_nil]at ha ⊢;omega) (by simp only[length_cons]at hk ⊢;omega) e3.s.adv
  refine⟨q2,?_,g2.s,g2.d.trans e3.d,g2.l.trans e3.l,g2.n.trans e3.n⟩
  simp only[KG]
  rw[if_pos (by rw[h.e];rfl),e1,e2,if_neg (by rw[e3.s.isT];decide),e3.s.wan (by decide),g1,List.append_assoc];rfl
theorem Yt:∀l:List Vr,l.length≤(psK l).length
 |[]=>Nat.zero_le _
 |[v]=>by simp[psK]
 |v::u::l=>by
  have:=Yt (u::l)
  simp only[psK,length_append,length_cons]at this ⊢;omega
theorem vT {l:List Vr} {p:Pr} {ts:List Kt} (hv:∀v∈l,nmO v.s) (hl:l.length≤6) (h:Sfx p (psK l++ts)):∃q,O9 p=(l,q)∧Ad0 p q ts:=by
 unfold O9
 cases l with
 |nil=>
  have h:Sfx p (kO 41::ts):=h
  rw[if_pos (by rw[h.isT];decide)]
  exact⟨adv p,rfl,h.adv,rfl,rfl,rfl⟩
 |cons v l=>
  have hf:isT [41] p=false:=by
   have hh:∃a r,psK (v::l)=a::r∧(a.1 != 1&&a.2==[41])=false:=by
    obtain⟨s,b⟩:=v
    have hs:=beq_eq_false_iff_ne.2 (lh_ne (hv ⟨s,b⟩ (by simp)).2:s≠[41])
    cases b with
    |true=>cases l with
     |nil=>exact⟨_,_,rfl,by decide⟩
     |cons u l=>exact⟨_,_,rfl,by decide⟩
    |false=>cases l with
     |nil=>exact⟨_,_,rfl,by simp only[hs,Bool.and_false]⟩
     |cons u l=>exact⟨_,_,rfl,by simp only[hs,Bool.and_false]⟩
   obtain⟨a,r,e1,e2⟩:=hh
   rw[e1]at h
   have h:Sfx p (a::(r++ts)):=h
   rw[h.isT,e2]
  rw[if_neg (by rw[hf];decide)]
  have h1:=h.lenN
  have h2:=Yt (v::l)
  rw[length_append]at h1
  exact mU (v::l) p [] (p.l.length+1) ts (by simp) hv (by simpa using hl) (by omega) h
theorem mV:∀(l:List Vr) (p:Pr) (acc:List Vr) (k:Nat) (ts:List Kt),(∀v∈l,nmO v.s)→acc.length+l.length≤20→l.length≤k→Sfx p (lsK l++ts)→(∀q,Sfx q ts→Lb q=false)→∃q,Hv k acc p=(acc++l,q)∧Ad0 p q ts
 |[],p,acc,k,ts,_,_,_,h,hb=>by
  have h:Sfx p ts:=h
  refine⟨p,?_,h,rfl,rfl,rfl⟩
  cases k with
  |zero=>simp[Hv]
  |succ k=>simp only[Hv];rw[if_neg (by rw[hb p h];decide),List.append_nil]
 |v::l,p,acc,k,ts,hv,ha,hk,h,hb=>by
  obtain⟨k,rfl⟩:∃j,k=j+1:=⟨k-1,by simp only[length_cons]at hk;omega⟩
  have hn:=hv v (by simp)
  obtain⟨s,b⟩:=v
  have h:Sfx p ((0,if b=true then tPtr else RK)::(0,s)::kO 59::(lsK l++ts)):=h
  have hB:O7 acc 20 (adv p)=false:=by
   unfold O7
   have:decide ((20:Int)≤(acc.length:Int))=false:=by rw[decide_eq_false_iff_not];simp only[length_cons]at ha;omega
   rw[this,Bool.and_false]
  have e1:Lb p=true:=by unfold Lb;rw[h.isT,h.isT];cases b<;>decide
  have e2:isT tPtr p=b:=by rw[h.isT];cases b<;>decide
  have e3:Dc acc b 20 (adv p)=acc++[⟨s,b⟩]:=by
   unfold Dc;rw[if_neg (by rw[hB];decide),GT h.adv hn.1]
  have e4:Ce acc 20 (adv p)=adv (adv p):=by
   unfold Ce;rw[if_neg (by rw[hB];decide)];exact h.adv.nam hn.1
  obtain⟨q,g1,g2⟩:=mV l (adv (adv (adv p))) (acc++[⟨s,b⟩]) k ts (fun w hw=>hv w (List.mem_cons_of_mem _ hw)) (by simp only[length_cons,length_append,length_nil]at ha ⊢;omega) (by simp only[length_cons]at hk;omega) h.adv.adv.adv hb
  refine⟨q,?_,g2.s,g2.d,g2.l,g2.n⟩
  simp only[Hv]
  rw[if_pos e1,e2,e3,e4,h.adv.adv.wan (by decide),g1,List.append_assoc];rfl
theorem Yu:∀l:List Vr,l.length≤(lsK l).length
 |[]=>Nat.zero_le _
 |v::l=>by
  have:=Yu l
  simp only[lsK,lcK,length_append,length_cons];omega
theorem jG {l:List Cs} (hw:wfB l) {q:Pr} (h:Sfx q (tkB l++[kO 125])):Lb q=false:=by
 have hh:∃a r,tkB l++[kO 125]=a::r∧(a.1 != 1&&a.2==RK)=false∧(a.1 != 1&&a.2==tPtr)=false:=by
  have nm:∀{x:List UInt8},nmO x→(((0,x):Kt).1 != 1&&((0,x):Kt).2==RK)=false∧(((0,x):Kt).1 != 1&&((0,x):Kt).2==tPtr)=false:=fun hx=>⟨by simp only[hx.ne (w:=RK),Bool.and_false],by simp only[hx.ne (w:=tPtr),Bool.and_false]⟩
  cases l with
  |nil=>exact⟨_,_,rfl,by decide,by decide⟩
  |cons s l=>
   have key:∃a r,s.tk=a::r∧(a.1 != 1&&a.2==RK)=false∧(a.1 != 1&&a.2==tPtr)=false:=by
    have hs:=hw.1
    cases s with
    |asg x e=>exact⟨_,_,by rw[Cs.tk],nm hs.1⟩
    |adr x y=>exact⟨_,_,by rw[Cs.tk],nm hs.1⟩
    |nul x=>exact⟨_,_,by rw[Cs.tk],nm hs⟩
    |lod x y=>exact⟨_,_,by rw[Cs.tk],nm hs.1⟩
    |sto x e=>exact⟨_,_,by rw[Cs.tk],by decide,by decide⟩
    |idx x y e=>exact⟨_,_,by rw[Cs.tk],nm hs.1⟩
    |put y e f=>exact⟨_,_,by rw[Cs.tk],nm hs.1⟩
    |cal x y l=>cases x with
     |none=>exact⟨_,_,by rw[Cs.tk],nm hs.1⟩
     |some x=>exact⟨_,_,by rw[Cs.tk],nm hs.1⟩
    |ret e=>exact⟨_,_,by rw[Cs.tk],by decide,by decide⟩
    |ass c=>exact⟨_,_,by rw[Cs.tk],by decide,by decide⟩
    |whi c b=>exact⟨_,_,by rw[Cs.tk],by decide,by decide⟩
    |ite c b e=>cases e with
     |none=>exact⟨_,_,by rw[Cs.tk],by decide,by decide⟩
     |some e=>exact⟨_,_,by rw[Cs.tk],by decide,by decide⟩
   obtain⟨a,r,e1,e2⟩:=key
   exact⟨a,r++(tkB l++[kO 125]),by simp[tkB,e1],e2⟩
 obtain⟨a,r,e1,e2,e3⟩:=hh
 rw[e1]at h
 unfold Lb
 rw[h.isT,h.isT,e2,e3];rfl
theorem eJ {f:Cf} (hf:f.ok) {s:List UInt8} {T:List Tok} (hr:rxT s=(T,0,0)) (hT:T.map kt=f.tk):funF s=(f.v,0,0):=by
 have hokp:=bk s (s.length:Int)
 have hT1:(rxT s).1=T:=by rw[hr]
 rw[hT1]at hokp
 have a0:Sfx (p0 T (s.length:Int)) ((0,tFn)::(0,f.name)::kO 40::(psK f.ps++kO 123::(lsK f.ls++(tkB f.body++[kO 125])))):=⟨hokp,rfl,by
  show (T.drop 0).map kt=_
  rw[List.drop_zero,hT];rfl⟩
 have b1:hdP T (s.length:Int)=adv (p0 T (s.length:Int)):=a0.wan (by decide)
 have a1:=a0.adv
 rw[← b1]at a1
 have b0:Bi (hdP T (s.length:Int))=f.name:=GT a1 hf.n.1
 have b2:Ai (hdP T (s.length:Int))=adv (hdP T (s.length:Int)):=a1.nam hf.n.1
 have a2:=a1.adv
 have b3:hd2 T (s.length:Int)=adv (adv (hdP T (s.length:Int))):=by
  unfold hd2;rw[b2];exact a2.wan (by decide)
 have a3:=a2.adv
 rw[← b3]at a3
 obtain⟨q3,c1,c2⟩:=vT hf.p hf.pl a3
 have b4:fp3 T (s.length:Int)=(f.ps,q3):=c1
 have d3:q3.deep=0:=by rw[c2.d,b3,b1];rfl
 have n3:q3.n=0:=by rw[c2.n,b3,b1];rfl
 obtain⟨o1,o2,o3⟩:=bm c2.s (by rw[d3];decide)
 have b5:EQ q3=adv (AG q3):=by
  unfold EQ;rw[if_pos (by rw[c2.s.isT];decide),if_pos o1]
 have a4:=o2.adv
 rw[← b5]at a4
 have d4:(EQ q3).deep=1:=by rw[b5];show (AG q3).deep=1;rw[o3,d3];rfl
 have n4:(EQ q3).n=0:=by rw[A1e,n3]
 have l4:=a4.lenN
 have l5:=Yu f.ls
 rw[length_append]at l4
 obtain⟨q4,g1,g2⟩:=mV f.ls (EQ q3) [] (EQ q3).l.length (tkB f.body++[kO 125]) hf.l (by simpa using hf.ll) (by omega) a4 (fun q hq=>jG hf.w hq)
 have b6:fp4 T (s.length:Int)=(f.ls,q4):=by unfold fp4 RM;rw[b4];exact g1
 have d5:q4.deep=1:=g2.d.trans d4
 have n5:q4.n=0:=g2.n.trans n4
 have l6:=g2.s.lenN
 have l7:=QF f.body
 simp only[jL3]at l6
 have hd:=hf.d
 have hc:=hf.c
 obtain⟨q5,k1,k2⟩:=Ts f.body 41 q4 [] (q4.l.length+1) [] hf.w ⟨by rw[d5];omega,by rw[d5];decide,by rw[n5];decide,by rw[n5];omega⟩ g2.s (by omega)
 have b7:fp5 T (s.length:Int)=(vB 0 f.body,q5):=by
  unfold fp5;rw[b6]
  show stmtsL (AW 41) (q4.l.length+1) [] q4=_
  rw[k1,n5];rfl
 have b8:fp6 T (s.length:Int)=q5:=by
  unfold fp6 PU
  rw[b7,if_neg]
  have:=k2.s.nil
  simp;omega
 unfold funF
 rw[hr]
 dsimp only
 rw[if_neg (by decide),b8,if_neg (by rw[k2.s.e];decide),b0,b4,b6,b7]
 rfl
end Go.Proofs.YtbiepiggmagfcaaGreatDoor
namespace Go.Proofs.YtbiepiggmagfcaaGreatDoor
open Go Go.Sy Go.RowKit
def wT (ts:List Kt):Nat:=(ts.map fun t=>t.2.length+200).sum
theorem Cq:wT []=0:=rfl
theorem B6 (t:Kt) (l:List Kt):wT (t::l)=t.2.length+200+wT l:=by simp[wT]
theorem C5 (l m:List Kt):wT (l++m)=wT l+wT m:=by simp[wT]
theorem eK:∀(d:List UInt8) (n:Int),w64 n→w64 (Ci d n)
 |[],n,h=>h
 |b::l,n,h=>eK l _ (by
  show w64 (IntKind.i64.wrap _)
  rw[IntKind.wrap_i64]
  exact⟨by omega,by omega⟩)
theorem Jh (p:Bool) (t:List UInt8):(enT p t).length≤t.length+2:=by unfold enT;split<;>simp
theorem Cx.rg:∀c:Cx,c.wf→rgE c.v∧okN c.v∧(exT c.v).length≤wT c.tk∧c.v.dp≤c.tk.length
 | .num d,_=>by
  have h0:w64 (Ci d 0):=eK d 0 ⟨by decide,by decide⟩
  refine⟨.inl rfl,⟨h0,trivial,trivial⟩,?_,by simp[Cx.v,Cx.tk,Ex.dp]⟩
  have:(itT (Ci d 0)).length≤22:=Gx h0
  show (exT (.mk 0 _ _ _ _)).length≤_
  rw[ex0];simp only[Cx.tk,B6,Cq];omega
 | .var s,_=>by
  refine⟨.inr (.inl rfl),⟨⟨by decide,by decide⟩,trivial,trivial⟩,?_,by simp[Cx.v,Cx.tk,Ex.dp]⟩
  show (exT (.mk 1 _ _ _ _)).length≤_
  rw[ex1];simp only[Cx.tk,B6,Cq];omega
 | .neg u,h=>by
  obtain⟨a,b,c,d⟩:=u.rg h.2
  refine⟨.inr (.inr (.inl ⟨rfl,a⟩)),⟨⟨by decide,by decide⟩,b,trivial⟩,?_,?_⟩
  ·show (exT (.mk 7 _ _ _ _)).length≤_
   have:=Jh (suB u.v||C3 u.v) (exT u.v)
   rw[ex7,Cx.tk,B6,length_append]
   simp only[length_cons,length_nil];omega
  ·simp only[Cx.v,Ex.dp,Cx.tk,length_cons];omega
 | .par u,h=>by
  obtain⟨a,b,c,d⟩:=u.rg h
  refine⟨a,b,?_,?_⟩
  ·show (exT u.v).length≤_
   rw[Cx.tk,B6,C5];omega
  ·show u.v.dp≤_
   simp only[Cx.tk,length_cons,length_append];omega
 | .bin o x y,h=>by
  have hh:(2≤o∧o≤6)∧x.wf∧y.wf:=by
   rcases h with⟨h1,_,h2,h3⟩|⟨h1,_,_,h2,h3⟩
   ·exact⟨by omega,h2,h3⟩
   ·exact⟨by omega,h2,h3⟩
  obtain⟨ho,wx,wy⟩:=hh
  obtain⟨a,b,c,d⟩:=x.rg wx
  obtain⟨a',b',c',d'⟩:=y.rg wy
  refine⟨.inr (.inr (.inr ⟨ho.1,ho.2,a,a'⟩)),⟨⟨by decide,by decide⟩,b,b'⟩,?_,?_⟩
  ·have e1:=Jh (suB x.v) (exT x.v)
   have e2:=Jh (suB y.v) (exT y.v)
   have e3:=Jh (suB y.v||C3 y.v) (exT y.v)
   have e4:wT (Cx.bin o x y).tk=wT x.tk+((opK o).length+200+wT y.tk):=by rw[Cx.tk,C5,B6]
   rw[e4]
   show (exT (.mk o _ _ _ _)).length≤_
   have:o=2∨o=3∨o=4∨o=5∨o=6:=by omega
   rcases this with rfl|rfl|rfl|rfl|rfl
   ·rw[ex2];simp only[jL3];omega
   ·rw[ex3];simp only[jL3];omega
   ·rw[ex4,faT];simp only[jL3];omega
   ·rw[ex5,faT];simp only[jL3];omega
   ·rw[ex6,faT];simp only[jL3];omega
  ·simp only[Cx.v,Ex.dp,Cx.tk,length_append,length_cons];omega
theorem vU {o:Nat} (h:o<6) (a b:Ex):(coT (.mk (o:Int) a b .nil .nil [])).length≤(exT a).length+(exT b).length+4:=by
 match o,h with
 |0,_=>show (coT (.mk 0 _ _ _ _ _)).length≤_;rw[co0,Bf];simp only[jL3];omega
 |1,_=>show (coT (.mk 1 _ _ _ _ _)).length≤_;rw[co1,Bf];simp only[jL3];omega
 |2,_=>show (coT (.mk 2 _ _ _ _ _)).length≤_;rw[co2,Bf];simp only[jL3];omega
 |3,_=>show (coT (.mk 3 _ _ _ _ _)).length≤_;rw[co3,Bf];simp only[jL3];omega
 |4,_=>show (coT (.mk 4 _ _ _ _ _)).length≤_;rw[co4,Bf];simp only[jL3];omega
 |5,_=>show (coT (.mk 5 _ _ _ _ _)).length≤_;rw[co5,Bf];simp only[jL3];omega
theorem eM (p:Cd):(coT (.mk 8 .nil .nil p .nil [])).length≤(coT p).length+3:=by
 rw[co8]
 split
 ·rename_i h
  cases p with
  |nil=>cases h
  |mk k a b p q s=>
   have hk:k=9:=eq_of_beq h
   subst hk
   rw[co9]
   simp only[Cd.nm,jL3];omega
 ·have:=Jh (!isB 8 p) (coT p)
  simp only[jL3];omega
theorem Cc.rg:∀c:Cc,c.wf→rgC c.v∧MZ c.v∧(coT c.v).length≤wT c.tk∧c.v.dp≤c.tk.length
 | .cmp o x y,h=>by
  obtain⟨ho,wx,wy,_⟩:=h
  obtain⟨a,b,c,d⟩:=x.rg wx
  obtain⟨a',b',c',d'⟩:=y.rg wy
  refine⟨.inr (.inr (.inr ⟨by omega,by omega,a,a'⟩)),⟨b,b',trivial,trivial⟩,?_,?_⟩
  ·have:=vU ho x.v y.v
   show (coT (.mk (o:Int) x.v y.v .nil .nil [])).length≤_
   rw[Cc.tk,C5,B6];omega
  ·simp only[Cc.v,Cd.dp,Cc.tk,length_append,length_cons];omega
 | .nul s ne,h=>by
  cases ne with
  |false=>
   refine⟨.inl rfl,⟨trivial,trivial,trivial,trivial⟩,?_,by simp[Cc.v,Cd.dp,Ex.dp,Cc.tk]⟩
   show (coT (.mk 9 _ _ _ _ _)).length≤_
   rw[co9]
   simp only[Cc.tk,B6,Cq,jL3];omega
  |true=>
   refine⟨.inr (.inl ⟨rfl,.inl rfl⟩),⟨trivial,trivial,⟨trivial,trivial,trivial,trivial⟩,trivial⟩,?_,by simp[Cc.v,Cd.dp,Ex.dp,Cc.tk]⟩
   have:=eM (.mk 9 .nil .nil .nil .nil s)
   rw[co9]at this
   have e:s.length+600≤wT (Cc.nul s true).tk:=by simp only[Cc.tk,B6,Cq];omega
   simp only[jL3]at this
   show (coT (.mk 8 .nil .nil (.mk 9 .nil .nil .nil .nil s) .nil [])).length≤_
   omega
 | .not u,h=>by
  obtain⟨a,b,c,d⟩:=u.rg h.1
  refine⟨.inr (.inl ⟨rfl,a⟩),⟨trivial,trivial,b,trivial⟩,?_,?_⟩
  ·have:=eM u.v
   show (coT (.mk 8 _ _ _ _ _)).length≤_
   rw[Cc.tk,B6];omega
  ·simp only[Cc.v,Cd.dp,Ex.dp,Cc.tk,length_cons];omega
 | .par u,h=>by
  obtain⟨a,b,c,d⟩:=u.rg h
  refine⟨a,b,?_,?_⟩
  ·show (coT u.v).length≤_
   rw[Cc.tk,B6,C5];omega
  ·show u.v.dp≤_
   simp only[Cc.tk,length_cons,length_append];omega
 | .and x y,h=>by
  obtain⟨a,b,c,d⟩:=x.rg h.1
  obtain⟨a',b',c',d'⟩:=y.rg h.2.1
  refine⟨.inr (.inr (.inl ⟨.inl rfl,a,a'⟩)),⟨trivial,trivial,b,b'⟩,?_,?_⟩
  ·have e1:=Jh (isB 7 x.v) (coT x.v)
   have e2:=Jh (isB 7 y.v||isB 6 y.v) (coT y.v)
   show (coT (.mk 6 _ _ _ _ _)).length≤_
   rw[co6,Cc.tk,C5,B6]
   simp only[jL3];omega
  ·simp only[Cc.v,Cd.dp,Ex.dp,Cc.tk,length_append,length_cons];omega
 | .or x y,h=>by
  obtain⟨a,b,c,d⟩:=x.rg h.1
  obtain⟨a',b',c',d'⟩:=y.rg h.2.1
  refine⟨.inr (.inr (.inl ⟨.inr rfl,a,a'⟩)),⟨trivial,trivial,b,b'⟩,?_,?_⟩
  ·have e2:=Jh (isB 7 y.v) (coT y.v)
   show (coT (.mk 7 _ _ _ _ _)).length≤_
   rw[co7,Cc.tk,C5,B6]
   simp only[jL3];omega
  ·simp only[Cc.v,Cd.dp,Ex.dp,Cc.tk,length_append,length_cons];omega
end Go.Proofs.YtbiepiggmagfcaaGreatDoor
