/- Functions as they are written: the parser reads each as what it says. No conditions but those in each statement. -/
import Derived.Test.YtbiepiggmagfcaaDoorCx4
import Derived.Test.YtbiepiggmagfcaaDoorPp
set_option linter.unusedVariables false
set_option linter.unusedSimpArgs false
namespace Go.Proofs.YtbiepiggmagfcaaDoor
open Go Go.Sy Go.RowKit
structure Cf where
 name:List UInt8
 ps:List Vr
 ls:List Vr
 body:List Cs
def vrK (v:Vr):List Kt:=if v.p=true then [kO 42,(0,v.s)] else [(0,v.s)]
def psK:List Vr→List Kt
 |[]=>[kO 41]
 |[v]=>vrK v++[kO 41]
 |v::l=>vrK v++kO 44::psK l
def lcK (v:Vr):List Kt:=[(0,if v.p=true then tPtr else tVar),(0,v.s),kO 59]
def lsK:List Vr→List Kt
 |[]=>[]
 |v::l=>lcK v++lsK l
def Cf.tk (f:Cf):List Kt:=(0,tFn)::(0,f.name)::kO 40::(psK f.ps++kO 123::(lsK f.ls++(tkB f.body++[kO 125])))
def Cf.v (f:Cf):Fn:=⟨f.name,f.ps,f.ls,vB 0 f.body⟩
structure Cf.ok (f:Cf):Prop where
 n:nmO f.name
 p:∀v∈f.ps,nmO v.s
 l:∀v∈f.ls,nmO v.s
 pl:f.ps.length≤6
 ll:f.ls.length≤20
 w:wfB f.body
 d:dpB f.body≤39
 c:ctB f.body≤200
structure Ad0 (p q:Pr) (ts:List Kt):Prop where
 s:Sfx q ts
 d:q.deep=p.deep
 l:q.l=p.l
 n:q.n=p.n
theorem par_1 {p:Pr} {v:Vr} {acc:List Vr} {ts:List Kt} (hv:nmO v.s) (ha:acc.length<6) (h:Sfx p (vrK v++ts)):∃q,morP acc 6 (takP [42] p)=q∧morL acc (isT [42] p) 6 (takP [42] p)=acc++[v]∧Ad0 p q ts:=by
 obtain⟨s,b⟩:=v
 have hB:∀q,morB acc 6 q=false:=by
  intro q
  unfold morB
  have:decide ((6:Int)≤(acc.length:Int))=false:=by rw[decide_eq_false_iff_not];omega
  rw[this,Bool.and_false]
 cases b with
 |true=>
  have h:Sfx p (kO 42::(0,s)::ts):=h
  have h1:isT [42] p=true:=by rw[h.isT];decide
  have h2:takP [42] p=adv p:=by unfold takP;rw[if_pos h1]
  rw[h1,h2]
  refine⟨adv (adv p),?_,?_,h.adv.adv,rfl,rfl,rfl⟩
  ·unfold morP;rw[if_neg (by rw[hB];decide)];exact h.adv.nam hv.1
  ·unfold morL;rw[if_neg (by rw[hB];decide),namS_s h.adv hv.1]
 |false=>
  have h:Sfx p ((0,s)::ts):=h
  have h1:isT [42] p=false:=by rw[h.isT,beq_eq_false_iff_ne.2 (lh_ne hv.2:s≠[42]),Bool.and_false]
  have h2:takP [42] p=p:=by unfold takP;rw[if_neg (by rw[h1];decide)]
  rw[h1,h2]
  refine⟨adv p,?_,?_,h.adv,rfl,rfl,rfl⟩
  ·unfold morP;rw[if_neg (by rw[hB];decide)];exact h.nam hv.1
  ·unfold morL;rw[if_neg (by rw[hB];decide),namS_s h hv.1]
theorem par_c:∀(l:List Vr) (p:Pr) (acc:List Vr) (k:Nat) (ts:List Kt),l≠[]→(∀v∈l,nmO v.s)→acc.length+l.length≤6→l.length≤k→Sfx p (psK l++ts)→∃q,parL k acc p=(acc++l,q)∧Ad0 p q ts
 |[],_,_,_,_,h,_,_,_,_=>absurd rfl h
 |[v],p,acc,k,ts,_,hv,ha,hk,h=>by
  obtain⟨k,rfl⟩:∃j,k=j+1:=⟨k-1,by simp only[List.length_cons]at hk;omega⟩
  have h:Sfx p (vrK v++kO 41::ts):=by simpa [psK] using h
  obtain⟨q,e1,e2,e3⟩:=par_1 (acc:=acc) (hv v (by simp)) (by simp only[List.length_cons,List.length_nil]at ha;omega) h
  refine⟨adv q,?_,e3.s.adv,e3.d,e3.l,e3.n⟩
  simp only[parL]
  rw[if_pos (by rw[h.e];rfl),e1,e2,if_pos (by rw[e3.s.isT];decide)]
 |v::u::l,p,acc,k,ts,_,hv,ha,hk,h=>by
  obtain⟨k,rfl⟩:∃j,k=j+1:=⟨k-1,by simp only[List.length_cons]at hk;omega⟩
  have h:Sfx p (vrK v++kO 44::(psK (u::l)++ts)):=by simpa [psK] using h
  obtain⟨q,e1,e2,e3⟩:=par_1 (acc:=acc) (hv v (by simp)) (by simp only[List.length_cons]at ha;omega) h
  obtain⟨q2,g1,g2⟩:=par_c (u::l) (adv q) (acc++[v]) k ts (by simp) (fun w hw=>hv w (List.mem_cons_of_mem _ hw)) (by simp only[List.length_cons,List.length_append,List.length_nil]at ha ⊢;omega) (by simp only[List.length_cons]at hk ⊢;omega) e3.s.adv
  refine⟨q2,?_,g2.s,g2.d.trans e3.d,g2.l.trans e3.l,g2.n.trans e3.n⟩
  simp only[parL]
  rw[if_pos (by rw[h.e];rfl),e1,e2,if_neg (by rw[e3.s.isT];decide),e3.s.wan (by decide),g1,List.append_assoc];rfl
theorem psK_len:∀l:List Vr,l.length≤(psK l).length
 |[]=>Nat.zero_le _
 |[v]=>by simp[psK]
 |v::u::l=>by
  have:=psK_len (u::l)
  simp only[psK,List.length_append,List.length_cons]at this ⊢;omega
theorem parW_c {l:List Vr} {p:Pr} {ts:List Kt} (hv:∀v∈l,nmO v.s) (hl:l.length≤6) (h:Sfx p (psK l++ts)):∃q,parW p=(l,q)∧Ad0 p q ts:=by
 unfold parW
 cases l with
 |nil=>
  have h:Sfx p (kO 41::ts):=h
  rw[if_pos (by rw[h.isT];decide)]
  exact⟨adv p,rfl,h.adv,rfl,rfl,rfl⟩
 |cons v l=>
  have hf:isT [41] p=false:=by
   have hh:∃a r,psK (v::l)=a::r∧(a.1 != 1&&a.2==[41])=false:=by
    obtain⟨s,b⟩:=v
    have hs:=beq_eq_false_iff_ne.2 (lh_ne (hv ⟨s,b⟩ (by simp)).2:s≠[41])
    cases b with
    |true=>cases l with
     |nil=>exact⟨_,_,rfl,by decide⟩
     |cons u l=>exact⟨_,_,rfl,by decide⟩
    |false=>cases l with
     |nil=>exact⟨_,_,rfl,by simp only[hs,Bool.and_false]⟩
     |cons u l=>exact⟨_,_,rfl,by simp only[hs,Bool.and_false]⟩
   obtain⟨a,r,e1,e2⟩:=hh
   rw[e1]at h
   have h:Sfx p (a::(r++ts)):=h
   rw[h.isT,e2]
  rw[if_neg (by rw[hf];decide)]
  have h1:=h.lenN
  have h2:=psK_len (v::l)
  rw[List.length_append]at h1
  exact par_c (v::l) p [] (p.l.length+1) ts (by simp) hv (by simpa using hl) (by omega) h
theorem loc_c:∀(l:List Vr) (p:Pr) (acc:List Vr) (k:Nat) (ts:List Kt),(∀v∈l,nmO v.s)→acc.length+l.length≤20→l.length≤k→Sfx p (lsK l++ts)→(∀q,Sfx q ts→locB q=false)→∃q,locL k acc p=(acc++l,q)∧Ad0 p q ts
 |[],p,acc,k,ts,_,_,_,h,hb=>by
  have h:Sfx p ts:=h
  refine⟨p,?_,h,rfl,rfl,rfl⟩
  cases k with
  |zero=>simp[locL]
  |succ k=>simp only[locL];rw[if_neg (by rw[hb p h];decide),List.append_nil]
 |v::l,p,acc,k,ts,hv,ha,hk,h,hb=>by
  obtain⟨k,rfl⟩:∃j,k=j+1:=⟨k-1,by simp only[List.length_cons]at hk;omega⟩
  have hn:=hv v (by simp)
  obtain⟨s,b⟩:=v
  have h:Sfx p ((0,if b=true then tPtr else tVar)::(0,s)::kO 59::(lsK l++ts)):=h
  have hB:morB acc 20 (adv p)=false:=by
   unfold morB
   have:decide ((20:Int)≤(acc.length:Int))=false:=by rw[decide_eq_false_iff_not];simp only[List.length_cons]at ha;omega
   rw[this,Bool.and_false]
  have e1:locB p=true:=by unfold locB;rw[h.isT,h.isT];cases b<;>decide
  have e2:isT tPtr p=b:=by rw[h.isT];cases b<;>decide
  have e3:morL acc b 20 (adv p)=acc++[⟨s,b⟩]:=by
   unfold morL;rw[if_neg (by rw[hB];decide),namS_s h.adv hn.1]
  have e4:morP acc 20 (adv p)=adv (adv p):=by
   unfold morP;rw[if_neg (by rw[hB];decide)];exact h.adv.nam hn.1
  obtain⟨q,g1,g2⟩:=loc_c l (adv (adv (adv p))) (acc++[⟨s,b⟩]) k ts (fun w hw=>hv w (List.mem_cons_of_mem _ hw)) (by simp only[List.length_cons,List.length_append,List.length_nil]at ha ⊢;omega) (by simp only[List.length_cons]at hk;omega) h.adv.adv.adv hb
  refine⟨q,?_,g2.s,g2.d,g2.l,g2.n⟩
  simp only[locL]
  rw[if_pos e1,e2,e3,e4,h.adv.adv.wan (by decide),g1,List.append_assoc];rfl
theorem lsK_len:∀l:List Vr,l.length≤(lsK l).length
 |[]=>Nat.zero_le _
 |v::l=>by
  have:=lsK_len l
  simp only[lsK,lcK,List.length_append,List.length_cons];omega
theorem body_loc {l:List Cs} (hw:wfB l) {q:Pr} (h:Sfx q (tkB l++[kO 125])):locB q=false:=by
 have hh:∃a r,tkB l++[kO 125]=a::r∧(a.1 != 1&&a.2==tVar)=false∧(a.1 != 1&&a.2==tPtr)=false:=by
  have nm:∀{x:List UInt8},nmO x→(((0,x):Kt).1 != 1&&((0,x):Kt).2==tVar)=false∧(((0,x):Kt).1 != 1&&((0,x):Kt).2==tPtr)=false:=fun hx=>⟨by simp only[hx.ne (w:=tVar),Bool.and_false],by simp only[hx.ne (w:=tPtr),Bool.and_false]⟩
  cases l with
  |nil=>exact⟨_,_,rfl,by decide,by decide⟩
  |cons s l=>
   have key:∃a r,s.tk=a::r∧(a.1 != 1&&a.2==tVar)=false∧(a.1 != 1&&a.2==tPtr)=false:=by
    have hs:=hw.1
    cases s with
    |asg x e=>exact⟨_,_,by rw[Cs.tk],nm hs.1⟩
    |adr x y=>exact⟨_,_,by rw[Cs.tk],nm hs.1⟩
    |nul x=>exact⟨_,_,by rw[Cs.tk],nm hs⟩
    |lod x y=>exact⟨_,_,by rw[Cs.tk],nm hs.1⟩
    |sto x e=>exact⟨_,_,by rw[Cs.tk],by decide,by decide⟩
    |idx x y e=>exact⟨_,_,by rw[Cs.tk],nm hs.1⟩
    |put y e f=>exact⟨_,_,by rw[Cs.tk],nm hs.1⟩
    |cal x y l=>cases x with
     |none=>exact⟨_,_,by rw[Cs.tk],nm hs.1⟩
     |some x=>exact⟨_,_,by rw[Cs.tk],nm hs.1⟩
    |ret e=>exact⟨_,_,by rw[Cs.tk],by decide,by decide⟩
    |ass c=>exact⟨_,_,by rw[Cs.tk],by decide,by decide⟩
    |whi c b=>exact⟨_,_,by rw[Cs.tk],by decide,by decide⟩
    |ite c b e=>cases e with
     |none=>exact⟨_,_,by rw[Cs.tk],by decide,by decide⟩
     |some e=>exact⟨_,_,by rw[Cs.tk],by decide,by decide⟩
   obtain⟨a,r,e1,e2⟩:=key
   exact⟨a,r++(tkB l++[kO 125]),by simp[tkB,e1],e2⟩
 obtain⟨a,r,e1,e2,e3⟩:=hh
 rw[e1]at h
 unfold locB
 rw[h.isT,h.isT,e2,e3];rfl
theorem cf_fun {f:Cf} (hf:f.ok) {s:List UInt8} {T:List Tok} (hr:rxT s=(T,0,0)) (hT:T.map kt=f.tk):funF s=(f.v,0,0):=by
 have hokp:=p0_ok s (s.length:Int)
 have hT1:(rxT s).1=T:=by rw[hr]
 rw[hT1]at hokp
 have a0:Sfx (p0 T (s.length:Int)) ((0,tFn)::(0,f.name)::kO 40::(psK f.ps++kO 123::(lsK f.ls++(tkB f.body++[kO 125])))):=⟨hokp,rfl,by
  show (T.drop 0).map kt=_
  rw[List.drop_zero,hT];rfl⟩
 have b1:hdP T (s.length:Int)=adv (p0 T (s.length:Int)):=a0.wan (by decide)
 have a1:=a0.adv
 rw[← b1]at a1
 have b0:namS (hdP T (s.length:Int))=f.name:=namS_s a1 hf.n.1
 have b2:namP (hdP T (s.length:Int))=adv (hdP T (s.length:Int)):=a1.nam hf.n.1
 have a2:=a1.adv
 have b3:hd2 T (s.length:Int)=adv (adv (hdP T (s.length:Int))):=by
  unfold hd2;rw[b2];exact a2.wan (by decide)
 have a3:=a2.adv
 rw[← b3]at a3
 obtain⟨q3,c1,c2⟩:=parW_c hf.p hf.pl a3
 have b4:fp3 T (s.length:Int)=(f.ps,q3):=c1
 have d3:q3.deep=0:=by rw[c2.d,b3,b1];rfl
 have n3:q3.n=0:=by rw[c2.n,b3,b1];rfl
 obtain⟨o1,o2,o3⟩:=opn_s c2.s (by rw[d3];decide)
 have b5:opeP q3=adv (opnP q3):=by
  unfold opeP;rw[if_pos (by rw[c2.s.isT];decide),if_pos o1]
 have a4:=o2.adv
 rw[← b5]at a4
 have d4:(opeP q3).deep=1:=by rw[b5];show (opnP q3).deep=1;rw[o3,d3];rfl
 have n4:(opeP q3).n=0:=by rw[ope_n,n3]
 have l4:=a4.lenN
 have l5:=lsK_len f.ls
 rw[List.length_append]at l4
 obtain⟨q4,g1,g2⟩:=loc_c f.ls (opeP q3) [] (opeP q3).l.length (tkB f.body++[kO 125]) hf.l (by simpa using hf.ll) (by omega) a4 (fun q hq=>body_loc hf.w hq)
 have b6:fp4 T (s.length:Int)=(f.ls,q4):=by unfold fp4 locW;rw[b4];exact g1
 have d5:q4.deep=1:=g2.d.trans d4
 have n5:q4.n=0:=g2.n.trans n4
 have l6:=g2.s.lenN
 have l7:=tkB_len f.body
 simp only[List.length_append,List.length_cons,List.length_nil]at l6
 have hd:=hf.d
 have hc:=hf.c
 obtain⟨q5,k1,k2⟩:=cs_list f.body 41 q4 [] (q4.l.length+1) [] hf.w ⟨by rw[d5];omega,by rw[d5];decide,by rw[n5];decide,by rw[n5];omega⟩ g2.s (by omega)
 have b7:fp5 T (s.length:Int)=(vB 0 f.body,q5):=by
  unfold fp5;rw[b6]
  show stmtsL (stmF 41) (q4.l.length+1) [] q4=_
  rw[k1,n5];rfl
 have b8:fp6 T (s.length:Int)=q5:=by
  unfold fp6 endP
  rw[b7,if_neg]
  have:=k2.s.nil
  simp;omega
 unfold funF
 rw[hr]
 dsimp only
 rw[if_neg (by decide),b8,if_neg (by rw[k2.s.e];decide),b0,b4,b6,b7]
 rfl
end Go.Proofs.YtbiepiggmagfcaaDoor
namespace Go.Proofs.YtbiepiggmagfcaaDoor
open Go Go.Sy Go.RowKit
def Lp (P:UInt8→Bool) (t:List UInt8) (ts:List Kt):Prop:=
 ∃n,n≤t.length∧∀(f i:Nat) (r:List UInt8) (out:List Tok),(∀c q,r=c::q→P c=true)→∃o2,o2.map kt=ts∧rxG (f+n) i (t++r) out=rxG f (i+t.length) r (out++o2)
def pT:UInt8→Bool:=fun _=>true
def pS:UInt8→Bool:=fun c=>!idB (c.toNat:Int)
abbrev Lw:=Lp pT
abbrev Lz:=Lp pS
theorem Lp.w {P:UInt8→Bool} {t:List UInt8} {ts:List Kt} (h:Lw t ts):Lp P t ts:=by
 obtain⟨n,h1,h2⟩:=h
 exact⟨n,h1,fun f i r out _=>h2 f i r out (fun _ _ _=>rfl)⟩
theorem Lp.app {P Q:UInt8→Bool} {t u:List UInt8} {ts us:List Kt} (h:Lp P t ts) (k:Lp Q u us) (hu:∃c q,u=c::q∧P c=true):Lp Q (t++u) (ts++us):=by
 obtain⟨n,h1,h2⟩:=h
 obtain⟨m,k1,k2⟩:=k
 refine⟨n+m,by rw[List.length_append];omega,fun f i r out hr=>?_⟩
 obtain⟨c,q,rfl,hc⟩:=hu
 obtain⟨o1,a1,a2⟩:=h2 (f+m) i ((c::q)++r) out (fun c' q' e=>by
  simp only[List.cons_append,List.cons.injEq]at e
  rw[← e.1];exact hc)
 obtain⟨o2,b1,b2⟩:=k2 f (i+t.length) r (out++o1) hr
 refine⟨o1++o2,by rw[List.map_append,a1,b1],?_⟩
 rw[List.append_assoc,show f+(n+m)=f+m+n by omega,a2,b2,List.length_append,Nat.add_assoc,List.append_assoc]
theorem Lp.wapp {Q:UInt8→Bool} {t u:List UInt8} {ts us:List Kt} (h:Lw t ts) (k:Lp Q u us):Lp Q (t++u) (ts++us):=by
 obtain⟨n,h1,h2⟩:=h
 obtain⟨m,k1,k2⟩:=k
 refine⟨n+m,by rw[List.length_append];omega,fun f i r out hr=>?_⟩
 obtain⟨o1,a1,a2⟩:=h2 (f+m) i (u++r) out (fun _ _ _=>rfl)
 obtain⟨o2,b1,b2⟩:=k2 f (i+t.length) r (out++o1) hr
 refine⟨o1++o2,by rw[List.map_append,a1,b1],?_⟩
 rw[List.append_assoc,show f+(n+m)=f+m+n by omega,a2,b2,List.length_append,Nat.add_assoc,List.append_assoc]
theorem Lp.nil {P:UInt8→Bool}:Lp P [] []:=⟨0,Nat.le_refl _,fun f i r out _=>⟨[],rfl,by simp⟩⟩
theorem Lp.of {t:List UInt8} {n:Nat} {ts:List Kt} (o:Nat→List Tok) (hn:n≤t.length) (h:∀i,(o i).map kt=ts) (h2:∀(f i:Nat) (r:List UInt8) (out:List Tok),rxG (f+n) i (t++r) out=rxG f (i+t.length) r ((o i).foldl (fun o t=>o++[t]) out)):Lw t ts:=
 ⟨n,hn,fun f i r out _=>⟨o i,h i,by rw[h2,foldl_app]⟩⟩
theorem spanN_app (p:Int→Bool):∀(s r:List UInt8),(∀c∈s,p (c.toNat:Int)=true)→(∀c q,r=c::q→p (c.toNat:Int)=false)→spanN p (s++r)=s.length
 |[],r,_,hr=>by
  cases r with
  |nil=>rfl
  |cons c q=>
   show spanN p (c::q)=0
   simp only[spanN]
   rw[if_neg (by rw[hr c q rfl];decide)]
 |c::s,r,h,hr=>by
  rw[List.cons_append,spanN,if_pos (h c (by simp)),spanN_app p s r (fun c hc=>h c (List.mem_cons_of_mem _ hc)) hr];rfl
theorem let_bl {c:Int} (h:letB c=true):blB c=false∧(c==35)=false:=by
 simp only[letB,Bool.or_eq_true,Bool.and_eq_true,decide_eq_true_eq,beq_iff_eq]at h
 simp only[blB,Bool.or_eq_false_iff,beq_eq_false_iff_ne]
 omega
theorem dig_bl {c:Int} (h:digB c=true):blB c=false∧(c==35)=false∧letB c=false:=by
 simp only[digB,Bool.and_eq_true,decide_eq_true_eq]at h
 simp only[blB,letB,Bool.or_eq_false_iff,beq_eq_false_iff_ne,Bool.and_eq_false_iff,decide_eq_false_iff_not]
 omega
theorem lz_nm {s:List UInt8} (h:lh s) (hs:∀c∈s,idB (c.toNat:Int)=true) (hl:s.length≤32):Lz s [(0,s)]:=by
 obtain⟨c,t,rfl,hc⟩:=h
 refine⟨1,by simp,fun f i r out hr=>⟨[⟨0,c::t,(i:Int)⟩],rfl,?_⟩⟩
 obtain⟨b1,b2⟩:=let_bl hc
 have hsp:=spanN_app idB (c::t) r hs (fun c' q e=>by have:=hr c' q e;simpa [pS] using this)
 rw[List.cons_append]at hsp ⊢
 simp only[rxG]
 rw[if_neg (by rw[b1];decide),if_neg (by rw[b2];decide),if_pos hc,hsp,if_neg (by simp only[decide_eq_true_eq];omega)]
 have e1:(c::(t++r)).drop (c::t).length=r:=by rw[← List.cons_append,List.drop_left]
 have e2:(c::(t++r)).take (c::t).length=c::t:=by rw[← List.cons_append,List.take_left]
 rw[e1,e2]
structure numO (d:List UInt8):Prop where
 dg:∀c∈d,digB (c.toNat:Int)=true
 n:d≠[]
 z:d.length=1∨d.head?≠some 48
 g:(dgF d 0 false).2=false∧(dgF d 0 false).1≤9223372036854775807
theorem dgF_app:∀(d r:List UInt8) (n:Int) (g:Bool),(∀c∈d,digB (c.toNat:Int)=true)→(∀c q,r=c::q→digB (c.toNat:Int)=false)→dgF (d++r) n g=dgF d n g
 |[],r,n,g,_,hr=>by
  cases r with
  |nil=>rfl
  |cons c q=>
   show dgF (c::q) n g=(n,g)
   simp only[dgF]
   rw[if_neg (by rw[hr c q rfl];decide)]
 |c::d,r,n,g,h,hr=>by
  rw[List.cons_append]
  simp only[dgF]
  have ih:=fun n g=>dgF_app d r n g (fun c hc=>h c (List.mem_cons_of_mem _ hc)) hr
  rw[ih,ih]
theorem lz_nu {d:List UInt8} (h:numO d):Lz d [(1,d)]:=by
 obtain⟨hd,hn,hz,hg⟩:=h
 cases d with
 |nil=>exact absurd rfl hn
 |cons c t=>
 have hc:=hd c (by simp)
 refine⟨1,by simp,fun f i r out hr=>⟨[⟨1,c::t,(i:Int)⟩],rfl,?_⟩⟩
 obtain⟨b1,b2,b3⟩:=dig_bl hc
 have hno:∀c' q,r=c'::q→letB (c'.toNat:Int)=false∧digB (c'.toNat:Int)=false:=fun c' q e=>by
  have:=hr c' q e
  simpa [pS,idB] using this
 have hsp:=spanN_app digB (c::t) r hd (fun c' q e=>(hno c' q e).2)
 have hdg:=dgF_app (c::t) r 0 false hd (fun c' q e=>(hno c' q e).2)
 rw[List.cons_append]at hsp hdg ⊢
 have e1:(c::(t++r)).drop (c::t).length=r:=by rw[← List.cons_append,List.drop_left]
 have e2:(c::(t++r)).take (c::t).length=c::t:=by rw[← List.cons_append,List.take_left]
 have hG:greB (c::(t++r))=false:=by
  unfold greB
  rw[hdg,hg.1,Bool.false_or,decide_eq_false_iff_not]
  have:=hg.2;omega
 have hL:(decide (0<r.length)&&letB (((r.getD 0 0).toNat:Nat):Int))=false:=by
  cases r with
  |nil=>rfl
  |cons c' q=>
   have:=(hno c' q rfl).1
   show (_&&letB (c'.toNat:Int))=false
   rw[this,Bool.and_false]
 have hZ:(((c.toNat:Int)==48)&&decide (1<(((c::t).length:Nat):Int)))=false:=by
  rcases hz with hz|hz
  ·have:decide (1<(((c::t).length:Nat):Int))=false:=by rw[decide_eq_false_iff_not,hz];decide
   rw[this,Bool.and_false]
  ·have:((c.toNat:Int)==48)=false:=by
    rw[beq_eq_false_iff_ne]
    intro h0
    apply hz
    have:c=48:=UInt8.toNat_inj.1 (by show c.toNat=48;omega)
    rw[this];rfl
   rw[this,Bool.false_and]
 simp only[rxG]
 rw[if_neg (by rw[b1];decide),if_neg (by rw[b2];decide),if_neg (by rw[b3];decide),if_pos hc,hsp,e1,e2,if_neg (by rw[hG];decide),hL,hZ,if_neg (by decide)]
def twB (l:List UInt8):Bool:=decide (2≤l.length)&&(l.take 2==[61,61]||l.take 2==[33,61]||l.take 2==[60,61]||l.take 2==[62,61]||l.take 2==[38,38]||l.take 2==[124,124])
theorem twB_2 (c d:UInt8) (r:List UInt8):twB (c::d::r)=((c==61&&d==61)||(c==33&&d==61)||(c==60&&d==61)||(c==62&&d==61)||(c==38&&d==38)||(c==124&&d==124)):=by
 have h:decide (2≤(c::d::r).length)=true:=by simp
 unfold twB
 rw[h,Bool.true_and]
 show (([c,d]==[61,61])||([c,d]==[33,61])||([c,d]==[60,61])||([c,d]==[62,61])||([c,d]==[38,38])||([c,d]==[124,124]))=_
 have e:∀x y:UInt8,([c,d]==[x,y])=(c==x&&d==y):=by
  intro x y
  show (c==x&&(d==y&&true))=_
  rw[Bool.and_true]
 rw[e,e,e,e,e,e]
theorem rxG_sg (f i:Nat) (c:UInt8) (r:List UInt8) (out:List Tok) (h1:oneB signs (c.toNat:Int)=true) (h2:(blB (c.toNat:Int)||(c.toNat:Int)==35||letB (c.toNat:Int)||digB (c.toNat:Int))=false) (h3:twB (c::r)=false):rxG (f+1) i (c::r) out=rxG f (i+1) r (out++[⟨2,[c],(i:Int)⟩]):=by
 simp only[Bool.or_eq_false_iff]at h2
 obtain⟨⟨⟨a1,a2⟩,a3⟩,a4⟩:=h2
 simp only[rxG]
 rw[if_neg (by rw[a1];decide),if_neg (by rw[a2];decide),if_neg (by rw[a3];decide),if_neg (by rw[a4];decide)]
 have h3':(decide (2≤(c::r).length)&&((c::r).take 2==[61,61]||(c::r).take 2==[33,61]||(c::r).take 2==[60,61]||(c::r).take 2==[62,61]||(c::r).take 2==[38,38]||(c::r).take 2==[124,124]))=false:=h3
 rw[if_neg (by rw[h3'];decide),if_pos h1]
 rfl
theorem lp_sg (P:UInt8→Bool) (c:UInt8) (h1:oneB signs (c.toNat:Int)=true:=by decide) (h2:(blB (c.toNat:Int)||(c.toNat:Int)==35||letB (c.toNat:Int)||digB (c.toNat:Int))=false:=by decide)
  (h3:∀d,P d=true→((c==61&&d==61)||(c==33&&d==61)||(c==60&&d==61)||(c==62&&d==61)||(c==38&&d==38)||(c==124&&d==124))=false):Lp P [c] [(2,[c])]:=by
 refine⟨1,Nat.le_refl _,fun f i r out hr=>⟨[⟨2,[c],(i:Int)⟩],rfl,?_⟩⟩
 refine rxG_sg f i c r out h1 h2 ?_
 cases r with
 |nil=>unfold twB;rw[show decide (2≤[c].length)=false from rfl,Bool.false_and]
 |cons d q=>rw[twB_2];exact h3 d (hr d q rfl)
theorem lw_sg (c:UInt8) (h1:oneB signs (c.toNat:Int)=true:=by decide) (h2:(blB (c.toNat:Int)||(c.toNat:Int)==35||letB (c.toNat:Int)||digB (c.toNat:Int))=false:=by decide) (h3:(c==61||c==33||c==60||c==62||c==38||c==124)=false:=by decide):Lw [c] [(2,[c])]:=by
 refine lp_sg pT c h1 h2 fun d _=>?_
 simp only[Bool.or_eq_false_iff]at h3
 obtain⟨⟨⟨⟨⟨a1,a2⟩,a3⟩,a4⟩,a5⟩,a6⟩:=h3
 rw[a1,a2,a3,a4,a5,a6];rfl
def pE:UInt8→Bool:=fun c=>!(c==61)
def pA:UInt8→Bool:=fun c=>!(c==38)
theorem lp_eq (c:UInt8) (h1:oneB signs (c.toNat:Int)=true:=by decide) (h2:(blB (c.toNat:Int)||(c.toNat:Int)==35||letB (c.toNat:Int)||digB (c.toNat:Int))=false:=by decide) (h3:(c==38||c==124)=false:=by decide):Lp pE [c] [(2,[c])]:=by
 refine lp_sg pE c h1 h2 fun d hd=>?_
 simp only[Bool.or_eq_false_iff]at h3
 simp only[pE,Bool.not_eq_true']at hd
 rw[hd,h3.1,h3.2];simp
theorem lp_am:Lp pA [38] [(2,[38])]:=by
 refine lp_sg pA 38 (by decide) (by decide) fun d hd=>?_
 simp only[pA,Bool.not_eq_true']at hd
 rw[hd];simp
theorem lw_bl (c:UInt8) (h:blB (c.toNat:Int)=true:=by decide):Lw [c] []:=by
 refine⟨1,Nat.le_refl _,fun f i r out _=>⟨[],rfl,?_⟩⟩
 show rxG (f+1) i (c::r) out=_
 simp only[rxG]
 rw[if_pos h,List.append_nil];rfl
theorem rx_all {t:List UInt8} {ts:List Kt} (h:Lw t ts) (hl:t.length≤4096):∃T,rxT t=(T,0,0)∧T.map kt=ts:=by
 obtain⟨n,h1,h2⟩:=h
 have hr:rxT t=rxG t.length 0 t []:=by
  unfold rxT
  rw[if_neg (by simp;omega),rxF_G _ _ _ _ (Nat.zero_le _)];rfl
 obtain⟨o,a1,a2⟩:=h2 (t.length-n) 0 [] [] (fun _ _ e=>by cases e)
 rw[List.append_nil,show t.length-n+n=t.length by omega]at a2
 refine⟨o,?_,a1⟩
 rw[hr,a2]
 cases t.length-n<;>rfl
end Go.Proofs.YtbiepiggmagfcaaDoor
