/- Functions as they are written: the parser reads each as what it says. No conditions but those in each statement. -/
import Derived.Test.YtlaggppdgoknjaaGreatDoorCx4
set_option linter.unusedVariables false
set_option linter.unusedSimpArgs false
namespace Go.Proofs.YtlaggppdgoknjaaGreatDoor
open Go Go.Sy Go.RowKit
structure Cf where
 name:List UInt8
 ps:List Vr
 ls:List Vr
 body:List Cs
def vrK (v:Vr):List Kt:=if v.p=true then [kO 42,(0,v.s)] else [(0,v.s)]
def psK:List Vr→List Kt
 |[]=>[kO 41]
 |[v]=>vrK v++[kO 41]
 |v::l=>vrK v++kO 44::psK l
def lcK (v:Vr):List Kt:=[(0,if v.p=true then tPtr else tVar),(0,v.s),kO 59]
def lsK:List Vr→List Kt
 |[]=>[]
 |v::l=>lcK v++lsK l
def Cf.tk (f:Cf):List Kt:=(0,tFn)::(0,f.name)::kO 40::(psK f.ps++kO 123::(lsK f.ls++(tkB f.body++[kO 125])))
def Cf.v (f:Cf):Fn:=⟨f.name,f.ps,f.ls,vB 0 f.body⟩
structure Cf.ok (f:Cf):Prop where
 n:nmO f.name
 p:∀v∈f.ps,nmO v.s
 l:∀v∈f.ls,nmO v.s
 pl:f.ps.length≤6
 ll:f.ls.length≤20
 w:wfB f.body
 d:dpB f.body≤39
 c:ctB f.body≤200
structure Ad0 (p q:Pr) (ts:List Kt):Prop where
 s:Sfx q ts
 d:q.deep=p.deep
 l:q.l=p.l
 n:q.n=p.n
theorem par_1 {p:Pr} {v:Vr} {acc:List Vr} {ts:List Kt} (hv:nmO v.s) (ha:acc.length<6) (h:Sfx p (vrK v++ts)):∃q,morP acc 6 (takP [42] p)=q∧morL acc (isT [42] p) 6 (takP [42] p)=acc++[v]∧Ad0 p q ts:=by
 obtain⟨s,b⟩:=v
 have hB:∀q,morB acc 6 q=false:=by
  intro q
  unfold morB
  have:decide ((6:Int)≤(acc.length:Int))=false:=by rw[decide_eq_false_iff_not];omega
  rw[this,Bool.and_false]
 cases b with
 |true=>
  have h:Sfx p (kO 42::(0,s)::ts):=h
  have h1:isT [42] p=true:=by rw[h.isT];decide
  have h2:takP [42] p=adv p:=by unfold takP;rw[if_pos h1]
  rw[h1,h2]
  refine⟨adv (adv p),?_,?_,h.adv.adv,rfl,rfl,rfl⟩
  ·unfold morP;rw[if_neg (by rw[hB];decide)];exact h.adv.nam hv.1
  ·unfold morL;rw[if_neg (by rw[hB];decide),namS_s h.adv hv.1]
 |false=>
  have h:Sfx p ((0,s)::ts):=h
  have h1:isT [42] p=false:=by rw[h.isT,beq_eq_false_iff_ne.2 (lh_ne hv.2:s≠[42]),Bool.and_false]
  have h2:takP [42] p=p:=by unfold takP;rw[if_neg (by rw[h1];decide)]
  rw[h1,h2]
  refine⟨adv p,?_,?_,h.adv,rfl,rfl,rfl⟩
  ·unfold morP;rw[if_neg (by rw[hB];decide)];exact h.nam hv.1
  ·unfold morL;rw[if_neg (by rw[hB];decide),namS_s h hv.1]
theorem par_c:∀(l:List Vr) (p:Pr) (acc:List Vr) (k:Nat) (ts:List Kt),l≠[]→(∀v∈l,nmO v.s)→acc.length+l.length≤6→l.length≤k→Sfx p (psK l++ts)→∃q,parL k acc p=(acc++l,q)∧Ad0 p q ts
 |[],_,_,_,_,h,_,_,_,_=>absurd rfl h
 |[v],p,acc,k,ts,_,hv,ha,hk,h=>by
  obtain⟨k,rfl⟩:∃j,k=j+1:=⟨k-1,by simp only[List.length_cons]at hk;omega⟩
  have h:Sfx p (vrK v++kO 41::ts):=by simpa [psK] using h
  obtain⟨q,e1,e2,e3⟩:=par_1 (acc:=acc) (hv v (by simp)) (by simp only[List.length_cons,List.length_nil]at ha;omega) h
  refine⟨adv q,?_,e3.s.adv,e3.d,e3.l,e3.n⟩
  simp only[parL]
  rw[if_pos (by rw[h.e];rfl),e1,e2,if_pos (by rw[e3.s.isT];decide)]
 |v::u::l,p,acc,k,ts,_,hv,ha,hk,h=>by
  obtain⟨k,rfl⟩:∃j,k=j+1:=⟨k-1,by simp only[List.length_cons]at hk;omega⟩
  have h:Sfx p (vrK v++kO 44::(psK (u::l)++ts)):=by simpa [psK] using h
  obtain⟨q,e1,e2,e3⟩:=par_1 (acc:=acc) (hv v (by simp)) (by simp only[List.length_cons]at ha;omega) h
  obtain⟨q2,g1,g2⟩:=par_c (u::l) (adv q) (acc++[v]) k ts (by simp) (fun w hw=>hv w (List.mem_cons_of_mem _ hw)) (by simp only[List.length_cons,List.length_append,List.length_nil]at ha ⊢;omega) (by simp only[List.length_cons]at hk ⊢;omega) e3.s.adv
  refine⟨q2,?_,g2.s,g2.d.trans e3.d,g2.l.trans e3.l,g2.n.trans e3.n⟩
  simp only[parL]
  rw[if_pos (by rw[h.e];rfl),e1,e2,if_neg (by rw[e3.s.isT];decide),e3.s.wan (by decide),g1,List.append_assoc];rfl
theorem psK_len:∀l:List Vr,l.length≤(psK l).length
 |[]=>Nat.zero_le _
 |[v]=>by simp[psK]
 |v::u::l=>by
  have:=psK_len (u::l)
  simp only[psK,List.length_append,List.length_cons]at this ⊢;omega
theorem parW_c {l:List Vr} {p:Pr} {ts:List Kt} (hv:∀v∈l,nmO v.s) (hl:l.length≤6) (h:Sfx p (psK l++ts)):∃q,parW p=(l,q)∧Ad0 p q ts:=by
 unfold parW
 cases l with
 |nil=>
  have h:Sfx p (kO 41::ts):=h
  rw[if_pos (by rw[h.isT];decide)]
  exact⟨adv p,rfl,h.adv,rfl,rfl,rfl⟩
 |cons v l=>
  have hf:isT [41] p=false:=by
   have hh:∃a r,psK (v::l)=a::r∧(a.1 != 1&&a.2==[41])=false:=by
    obtain⟨s,b⟩:=v
    have hs:=beq_eq_false_iff_ne.2 (lh_ne (hv ⟨s,b⟩ (by simp)).2:s≠[41])
    cases b with
    |true=>cases l with
     |nil=>exact⟨_,_,rfl,by decide⟩
     |cons u l=>exact⟨_,_,rfl,by decide⟩
    |false=>cases l with
     |nil=>exact⟨_,_,rfl,by simp only[hs,Bool.and_false]⟩
     |cons u l=>exact⟨_,_,rfl,by simp only[hs,Bool.and_false]⟩
   obtain⟨a,r,e1,e2⟩:=hh
   rw[e1]at h
   have h:Sfx p (a::(r++ts)):=h
   rw[h.isT,e2]
  rw[if_neg (by rw[hf];decide)]
  have h1:=h.lenN
  have h2:=psK_len (v::l)
  rw[List.length_append]at h1
  exact par_c (v::l) p [] (p.l.length+1) ts (by simp) hv (by simpa using hl) (by omega) h
theorem loc_c:∀(l:List Vr) (p:Pr) (acc:List Vr) (k:Nat) (ts:List Kt),(∀v∈l,nmO v.s)→acc.length+l.length≤20→l.length≤k→Sfx p (lsK l++ts)→(∀q,Sfx q ts→locB q=false)→∃q,locL k acc p=(acc++l,q)∧Ad0 p q ts
 |[],p,acc,k,ts,_,_,_,h,hb=>by
  have h:Sfx p ts:=h
  refine⟨p,?_,h,rfl,rfl,rfl⟩
  cases k with
  |zero=>simp[locL]
  |succ k=>simp only[locL];rw[if_neg (by rw[hb p h];decide),List.append_nil]
 |v::l,p,acc,k,ts,hv,ha,hk,h,hb=>by
  obtain⟨k,rfl⟩:∃j,k=j+1:=⟨k-1,by simp only[List.length_cons]at hk;omega⟩
  have hn:=hv v (by simp)
  obtain⟨s,b⟩:=v
  have h:Sfx p ((0,if b=true then tPtr else tVar)::(0,s)::kO 59::(lsK l++ts)):=h
  have hB:morB acc 20 (adv p)=false:=by
   unfold morB
   have:decide ((20:Int)≤(acc.length:Int))=false:=by rw[decide_eq_false_iff_not];simp only[List.length_cons]at ha;omega
   rw[this,Bool.and_false]
  have e1:locB p=true:=by unfold locB;rw[h.isT,h.isT];cases b<;>decide
  have e2:isT tPtr p=b:=by rw[h.isT];cases b<;>decide
  have e3:morL acc b 20 (adv p)=acc++[⟨s,b⟩]:=by
   unfold morL;rw[if_neg (by rw[hB];decide),namS_s h.adv hn.1]
  have e4:morP acc 20 (adv p)=adv (adv p):=by
   unfold morP;rw[if_neg (by rw[hB];decide)];exact h.adv.nam hn.1
  obtain⟨q,g1,g2⟩:=loc_c l (adv (adv (adv p))) (acc++[⟨s,b⟩]) k ts (fun w hw=>hv w (List.mem_cons_of_mem _ hw)) (by simp only[List.length_cons,List.length_append,List.length_nil]at ha ⊢;omega) (by simp only[List.length_cons]at hk;omega) h.adv.adv.adv hb
  refine⟨q,?_,g2.s,g2.d,g2.l,g2.n⟩
  simp only[locL]
  rw[if_pos e1,e2,e3,e4,h.adv.adv.wan (by decide),g1,List.append_assoc];rfl
theorem lsK_len:∀l:List Vr,l.length≤(lsK l).length
 |[]=>Nat.zero_le _
 |v::l=>by
  have:=lsK_len l
  simp only[lsK,lcK,List.length_append,List.length_cons];omega
theorem body_loc {l:List Cs} (hw:wfB l) {q:Pr} (h:Sfx q (tkB l++[kO 125])):locB q=false:=by
 have hh:∃a r,tkB l++[kO 125]=a::r∧(a.1 != 1&&a.2==tVar)=false∧(a.1 != 1&&a.2==tPtr)=false:=by
  have nm:∀{x:List UInt8},nmO x→(((0,x):Kt).1 != 1&&((0,x):Kt).2==tVar)=false∧(((0,x):Kt).1 != 1&&((0,x):Kt).2==tPtr)=false:=fun hx=>⟨by simp only[hx.ne (w:=tVar),Bool.and_false],by simp only[hx.ne (w:=tPtr),Bool.and_false]⟩
  cases l with
  |nil=>exact⟨_,_,rfl,by decide,by decide⟩
  |cons s l=>
   have key:∃a r,s.tk=a::r∧(a.1 != 1&&a.2==tVar)=false∧(a.1 != 1&&a.2==tPtr)=false:=by
    have hs:=hw.1
    cases s with
    |asg x e=>exact⟨_,_,by rw[Cs.tk],nm hs.1⟩
    |adr x y=>exact⟨_,_,by rw[Cs.tk],nm hs.1⟩
    |nul x=>exact⟨_,_,by rw[Cs.tk],nm hs⟩
    |lod x y=>exact⟨_,_,by rw[Cs.tk],nm hs.1⟩
    |sto x e=>exact⟨_,_,by rw[Cs.tk],by decide,by decide⟩
    |idx x y e=>exact⟨_,_,by rw[Cs.tk],nm hs.1⟩
    |put y e f=>exact⟨_,_,by rw[Cs.tk],nm hs.1⟩
    |cal x y l=>cases x with
     |none=>exact⟨_,_,by rw[Cs.tk],nm hs.1⟩
     |some x=>exact⟨_,_,by rw[Cs.tk],nm hs.1⟩
    |ret e=>exact⟨_,_,by rw[Cs.tk],by decide,by decide⟩
    |ass c=>exact⟨_,_,by rw[Cs.tk],by decide,by decide⟩
    |whi c b=>exact⟨_,_,by rw[Cs.tk],by decide,by decide⟩
    |ite c b e=>cases e with
     |none=>exact⟨_,_,by rw[Cs.tk],by decide,by decide⟩
     |some e=>exact⟨_,_,by rw[Cs.tk],by decide,by decide⟩
   obtain⟨a,r,e1,e2⟩:=key
   exact⟨a,r++(tkB l++[kO 125]),by simp[tkB,e1],e2⟩
 obtain⟨a,r,e1,e2,e3⟩:=hh
 rw[e1]at h
 unfold locB
 rw[h.isT,h.isT,e2,e3];rfl
theorem cf_fun {f:Cf} (hf:f.ok) {s:List UInt8} {T:List Tok} (hr:rxT s=(T,0,0)) (hT:T.map kt=f.tk):funF s=(f.v,0,0):=by
 have hokp:=p0_ok s (s.length:Int)
 have hT1:(rxT s).1=T:=by rw[hr]
 rw[hT1]at hokp
 have a0:Sfx (p0 T (s.length:Int)) ((0,tFn)::(0,f.name)::kO 40::(psK f.ps++kO 123::(lsK f.ls++(tkB f.body++[kO 125])))):=⟨hokp,rfl,by
  show (T.drop 0).map kt=_
  rw[List.drop_zero,hT];rfl⟩
 have b1:hdP T (s.length:Int)=adv (p0 T (s.length:Int)):=a0.wan (by decide)
 have a1:=a0.adv
 rw[← b1]at a1
 have b0:namS (hdP T (s.length:Int))=f.name:=namS_s a1 hf.n.1
 have b2:namP (hdP T (s.length:Int))=adv (hdP T (s.length:Int)):=a1.nam hf.n.1
 have a2:=a1.adv
 have b3:hd2 T (s.length:Int)=adv (adv (hdP T (s.length:Int))):=by
  unfold hd2;rw[b2];exact a2.wan (by decide)
 have a3:=a2.adv
 rw[← b3]at a3
 obtain⟨q3,c1,c2⟩:=parW_c hf.p hf.pl a3
 have b4:fp3 T (s.length:Int)=(f.ps,q3):=c1
 have d3:q3.deep=0:=by rw[c2.d,b3,b1];rfl
 have n3:q3.n=0:=by rw[c2.n,b3,b1];rfl
 obtain⟨o1,o2,o3⟩:=opn_s c2.s (by rw[d3];decide)
 have b5:opeP q3=adv (opnP q3):=by
  unfold opeP;rw[if_pos (by rw[c2.s.isT];decide),if_pos o1]
 have a4:=o2.adv
 rw[← b5]at a4
 have d4:(opeP q3).deep=1:=by rw[b5];show (opnP q3).deep=1;rw[o3,d3];rfl
 have n4:(opeP q3).n=0:=by rw[ope_n,n3]
 have l4:=a4.lenN
 have l5:=lsK_len f.ls
 rw[List.length_append]at l4
 obtain⟨q4,g1,g2⟩:=loc_c f.ls (opeP q3) [] (opeP q3).l.length (tkB f.body++[kO 125]) hf.l (by simpa using hf.ll) (by omega) a4 (fun q hq=>body_loc hf.w hq)
 have b6:fp4 T (s.length:Int)=(f.ls,q4):=by unfold fp4 locW;rw[b4];exact g1
 have d5:q4.deep=1:=g2.d.trans d4
 have n5:q4.n=0:=g2.n.trans n4
 have l6:=g2.s.lenN
 have l7:=tkB_len f.body
 simp only[List.length_append,List.length_cons,List.length_nil]at l6
 have hd:=hf.d
 have hc:=hf.c
 obtain⟨q5,k1,k2⟩:=cs_list f.body 41 q4 [] (q4.l.length+1) [] hf.w ⟨by rw[d5];omega,by rw[d5];decide,by rw[n5];decide,by rw[n5];omega⟩ g2.s (by omega)
 have b7:fp5 T (s.length:Int)=(vB 0 f.body,q5):=by
  unfold fp5;rw[b6]
  show stmtsL (stmF 41) (q4.l.length+1) [] q4=_
  rw[k1,n5];rfl
 have b8:fp6 T (s.length:Int)=q5:=by
  unfold fp6 endP
  rw[b7,if_neg]
  have:=k2.s.nil
  simp;omega
 unfold funF
 rw[hr]
 dsimp only
 rw[if_neg (by decide),b8,if_neg (by rw[k2.s.e];decide),b0,b4,b6,b7]
 rfl
end Go.Proofs.YtlaggppdgoknjaaGreatDoor
