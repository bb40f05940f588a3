/- No line of a function that was read holds a line's end; the resolver keeps numbers. No conditions but those in each statement. -/
import Derived.Test.YtbiepiggmagfcaaGreatDoorRp9
import Derived.Test.YtbiepiggmagfcaaGreatDoorBk2
set_option linter.unusedVariables false
set_option linter.unusedSimpArgs false
open List (mem_cons_of_mem)
namespace Go.Proofs.YtbiepiggmagfcaaGreatDoor
open Go Go.Sy Go.Shelf Go.RowKit
def nl (t:List UInt8):Prop:=(10:UInt8)∉t
theorem A2z {s:List UInt8} (h:∀c∈s,idB (c.toNat:Int)=true):nl s:=fun hm=>by
 have:=h _ hm;revert this;decide
theorem A30 {s:List UInt8} (h:∀c∈s,AR (c.toNat:Int)=true):nl s:=fun hm=>by
 have:=h _ hm;revert this;decide
theorem Dj {s:List UInt8} (g:tkG (0,s)):nl s:=A2z (g.1 rfl).2
theorem B1 {a b:List UInt8} (h:nl a) (k:nl b):nl (a++b):=fun hm=>by
 rcases List.mem_append.1 hm with h1|h1
 ·exact h h1
 ·exact k h1
theorem GC {p:Bool} {t:List UInt8} (h:nl t):nl (enT p t):=by
 cases p with
 |false=>exact h
 |true=>exact B1 (B1 (by unfold nl;decide) h) (by unfold nl;decide)
theorem Zw {l:List (List UInt8)} (h:∀t∈l,nl t):nl l.flatten:=fun hm=>by
 obtain⟨t,ht,hm⟩:=List.mem_flatten.1 hm
 exact h t ht hm
theorem Cx.nlT:∀c:Cx,c.wf→c.nm→(∀t∈c.tk,tkG t)→nl (exT c.v)
 | .num d,_,_,h=>by
  have:=((h _ (List.mem_singleton.2 rfl)).2 rfl).num
  show nl (exT (.mk 0 (Ci d 0) [] .nil .nil))
  rw[ex0];exact A30 (hX this.1 this.2).1.dg
 | .var s,_,_,h=>by
  show nl (exT (.mk 1 0 s .nil .nil))
  rw[ex1];exact Dj (h _ (List.mem_singleton.2 rfl))
 | .neg u,hw,hn,h=>by
  show nl (exT (.mk 7 0 [] u.v .nil))
  rw[ex7];exact B1 (by unfold nl;decide) (GC (u.nlT hw.2 hn (fun t ht=>h t (mem_cons_of_mem _ ht))))
 | .par u,hw,hn,h=>u.nlT hw hn (fun t ht=>h t (mem_cons_of_mem _ (List.mem_append_left _ ht)))
 | .bin o a b,hw,hn,h=>by
  have ha:∀t∈a.tk,tkG t:=fun t ht=>h t (List.mem_append_left _ ht)
  have hb:∀t∈b.tk,tkG t:=fun t ht=>h t (List.mem_append_right _ (mem_cons_of_mem _ ht))
  show nl (exT (.mk o 0 [] a.v b.v))
  have hw2:a.wf∧b.wf∧(o=2∨o=3∨o=4∨o=5∨o=6):=by
   rcases hw with⟨ho,_,w1,w2⟩|⟨ho,_,_,w1,w2⟩
   ·exact⟨w1,w2,by omega⟩
   ·exact⟨w1,w2,by omega⟩
  obtain⟨w1,w2,hk⟩:=hw2
  have ia:=a.nlT w1 hn.1 ha
  have ib:=b.nlT w2 hn.2 hb
  rcases hk with rfl|rfl|rfl|rfl|rfl
  ·rw[ex2];exact B1 (B1 ia (by unfold nl;decide)) (GC ib)
  ·rw[ex3];exact B1 (B1 ia (by unfold nl;decide)) (GC ib)
  ·rw[ex4];exact B1 (B1 (GC ia) (by unfold nl;decide)) (GC ib)
  ·rw[ex5];exact B1 (B1 (GC ia) (by unfold nl;decide)) (GC ib)
  ·rw[ex6];exact B1 (B1 (GC ia) (by unfold nl;decide)) (GC ib)
theorem exO.nl {e:Cx} (h:exO e) (g:∀t∈e.tk,tkG t):nl (exT e.v):=e.nlT h.1 h.2 g
theorem Cc.nlT:∀c:Cc,c.wf→(∀t∈c.tk,tkG t)→nl (coT c.v)
 | .cmp o a b,hw,h=>by
  obtain⟨ho,wa,wb,na,nb,_⟩:=hw
  have ia:=a.nlT wa na (fun t ht=>h t (List.mem_append_left _ ht))
  have ib:=b.nlT wb nb (fun t ht=>h t (List.mem_append_right _ (mem_cons_of_mem _ ht)))
  show nl (coT (.mk (o:Int) a.v b.v .nil .nil []))
  rw[bH (by omega) (by omega),Int.toNat_natCast]
  refine B1 (B1 ia ?_) ib
  match o,ho with
  |0,_=>unfold nl;decide
  |1,_=>unfold nl;decide
  |2,_=>unfold nl;decide
  |3,_=>unfold nl;decide
  |4,_=>unfold nl;decide
  |5,_=>unfold nl;decide
 | .nul s ne,hw,h=>by
  have hs:=Dj (h (0,s) (List.mem_cons_self ..))
  cases ne with
  |true=>
   show nl (coT (.mk 8 .nil .nil (.mk 9 .nil .nil .nil .nil s) .nil []))
   rw[co8,if_pos (show isB 9 (Cd.mk 9 Ex.nil Ex.nil Cd.nil Cd.nil s)=true from rfl)];exact B1 hs (by unfold nl;decide)
  |false=>
   show nl (coT (.mk 9 .nil .nil .nil .nil s))
   rw[co9];exact B1 hs (by unfold nl;decide)
 | .not u,hw,h=>by
  have iu:=u.nlT hw.1 (fun t ht=>h t (mem_cons_of_mem _ ht))
  show nl (coT (.mk 8 .nil .nil u.v .nil []))
  rw[co8]
  cases h9:isB 9 u.v with
  |false=>rw[if_neg (by decide)];exact B1 (by unfold nl;decide) (GC iu)
  |true=>
   rw[if_pos rfl]
   cases hv:u.v with
   |nil=>exact B1 (by unfold nl;decide) (by unfold nl;decide)
   |mk k a b p q s=>
    rw[hv]at h9 iu
    have hk:k=9:=eq_of_beq h9
    subst hk
    rw[co9]at iu
    exact B1 (fun hm=>iu (List.mem_append_left _ hm)) (by unfold nl;decide)
 | .par u,hw,h=>u.nlT hw (fun t ht=>h t (mem_cons_of_mem _ (List.mem_append_left _ ht)))
 | .and a b,hw,h=>by
  have ia:=a.nlT hw.1 (fun t ht=>h t (List.mem_append_left _ ht))
  have ib:=b.nlT hw.2.1 (fun t ht=>h t (List.mem_append_right _ (mem_cons_of_mem _ ht)))
  show nl (coT (.mk 6 .nil .nil a.v b.v []))
  rw[co6];exact B1 (B1 (GC ia) (by unfold nl;decide)) (GC ib)
 | .or a b,hw,h=>by
  have ia:=a.nlT hw.1 (fun t ht=>h t (List.mem_append_left _ ht))
  have ib:=b.nlT hw.2.1 (fun t ht=>h t (List.mem_append_right _ (mem_cons_of_mem _ ht)))
  show nl (coT (.mk 7 .nil .nil a.v b.v []))
  rw[co7];exact B1 (B1 ia (by unfold nl;decide)) (GC ib)
theorem cH:∀{l:List (List UInt8)},(∀t∈l,nl t)→nl (jnT l)
 |[],_=>by unfold nl;decide
 |[a],h=>by rw[uy];exact h a (by simp)
 |a::b::l,h=>by
  rw[ux]
  exact B1 (h a (by simp)) (B1 (by unfold nl;decide) (cH (fun t ht=>h t (mem_cons_of_mem _ ht))))
theorem nM {l:List Cx} (hw:∀e∈l,exO e) (g:∀t∈agK l,tkG t):nl (jnT ((agA l).map Az)):=by
 refine cH fun t ht=>?_
 obtain⟨a,ha,rfl⟩:=List.mem_map.1 ht
 obtain⟨c,hc,rfl⟩:=List.mem_map.1 ha
 exact(hw c hc).nl (fun t ht=>g t (WQ hc ht))
theorem T4 (d:Nat):nl (tbs d):=fun hm=>by
 have:=List.eq_of_mem_replicate hm
 revert this;decide
def lnl (l:List Ln):Prop:=∀x∈l,nl x.t
theorem WE {d:Nat} {ps:List (List UInt8)} {n:Int} (h:∀t∈ps,nl t):nl (lnO d ps.flatten n).t:=B1 (T4 d) (Zw h)
theorem Fi {d:Nat} {s:Sm} (h1:(s.k==10)=false) (h2:(s.k==11)=false) (h:∀t∈hdL s,nl t):lnl (lnS d s):=by
 rw[BJ,h1,h2,if_neg (by decide),if_neg (by decide)]
 intro x hx
 rw[List.mem_singleton.1 hx];exact WE h
theorem Gz {P:List UInt8→Prop} {l:List (List UInt8)} (h:l.foldr (fun t p=>P t∧p) True):∀t∈l,P t:=by
 induction l with
 |nil=>intro t ht;cases ht
 |cons a l ih=>
  intro t ht
  rcases List.mem_cons.1 ht with rfl|ht
  ·exact h.1
  ·exact ih h.2 t ht
mutual
theorem A7u:∀(s:Cs),s.wf→(∀t∈s.tk,tkG t)→∀(d:Nat) (n:Int),lnl (lnS d (s.v n))
 | .asg x e,hw,g,d,n=>by
  simp only[Cs.wf]at hw
  simp only[Cs.tk]at g
  rw[Cs.v]
  refine Fi rfl rfl ?_
  rw[PX]
  exact Gz ⟨Dj (g (0,x) (by simp)),by unfold nl;decide,hw.2.nl (fun t ht=>g t (by simp[ht])),by unfold nl;decide,trivial⟩
 | .adr x y,hw,g,d,n=>by
  simp only[Cs.wf]at hw
  simp only[Cs.tk]at g
  rw[Cs.v]
  refine Fi rfl rfl ?_
  rw[RS]
  exact Gz ⟨Dj (g (0,x) (by simp)),by unfold nl;decide,Dj (g (0,y) (by simp)),by unfold nl;decide,trivial⟩
 | .nul x,hw,g,d,n=>by
  simp only[Cs.wf]at hw
  simp only[Cs.tk]at g
  rw[Cs.v]
  refine Fi rfl rfl ?_
  rw[RT]
  exact Gz ⟨Dj (g (0,x) (by simp)),by unfold nl;decide,trivial⟩
 | .lod x y,hw,g,d,n=>by
  simp only[Cs.wf]at hw
  simp only[Cs.tk]at g
  rw[Cs.v]
  refine Fi rfl rfl ?_
  rw[RU]
  exact Gz ⟨Dj (g (0,x) (by simp)),by unfold nl;decide,Dj (g (0,y) (by simp)),by unfold nl;decide,trivial⟩
 | .sto x e,hw,g,d,n=>by
  simp only[Cs.wf]at hw
  simp only[Cs.tk]at g
  rw[Cs.v]
  refine Fi rfl rfl ?_
  rw[RV]
  exact Gz ⟨by unfold nl;decide,Dj (g (0,x) (by simp)),by unfold nl;decide,hw.2.nl (fun t ht=>g t (by simp[ht])),by unfold nl;decide,trivial⟩
 | .idx x y e,hw,g,d,n=>by
  simp only[Cs.wf]at hw
  simp only[Cs.tk]at g
  rw[Cs.v]
  refine Fi rfl rfl ?_
  rw[RW]
  exact Gz ⟨Dj (g (0,x) (by simp)),by unfold nl;decide,Dj (g (0,y) (by simp)),by unfold nl;decide,hw.2.2.nl (fun t ht=>g t (by simp[ht])),by unfold nl;decide,trivial⟩
 | .put y e f,hw,g,d,n=>by
  simp only[Cs.wf]at hw
  simp only[Cs.tk]at g
  rw[Cs.v]
  refine Fi rfl rfl ?_
  rw[RX]
  exact Gz ⟨Dj (g (0,y) (by simp)),by unfold nl;decide,hw.2.1.nl (fun t ht=>g t (by simp[ht])),by unfold nl;decide,hw.2.2.nl (fun t ht=>g t (by simp[ht])),by unfold nl;decide,trivial⟩
 | .cal none y l,hw,g,d,n=>by
  simp only[Cs.wf]at hw
  simp only[Cs.tk]at g
  rw[Cs.v]
  refine Fi rfl rfl ?_
  rw[J8]
  exact Gz ⟨by unfold nl;decide,Dj (g (0,y) (by simp)),by unfold nl;decide,nM hw.2 (fun t ht=>g t (by simp[ht])),by unfold nl;decide,trivial⟩
 | .cal (some x) y l,hw,g,d,n=>by
  simp only[Cs.wf]at hw
  simp only[Cs.tk]at g
  have ht:FX x=x++[32,61,32]:=by
   obtain⟨c,q,e,_⟩:=hw.1.2
   rw[e];rfl
  rw[Cs.v]
  refine Fi rfl rfl ?_
  rw[J8,ht]
  exact Gz ⟨B1 (Dj (g (0,x) (by simp))) (by unfold nl;decide),Dj (g (0,y) (by simp)),by unfold nl;decide,nM hw.2.2 (fun t ht=>g t (by simp[ht])),by unfold nl;decide,trivial⟩
 | .ret e,hw,g,d,n=>by
  simp only[Cs.wf]at hw
  simp only[Cs.tk]at g
  rw[Cs.v]
  refine Fi rfl rfl ?_
  rw[RY]
  exact Gz ⟨by unfold nl;decide,hw.nl (fun t ht=>g t (by simp[ht])),by unfold nl;decide,trivial⟩
 | .ass c,hw,g,d,n=>by
  simp only[Cs.wf]at hw
  simp only[Cs.tk]at g
  rw[Cs.v]
  refine Fi rfl rfl ?_
  rw[OB]
  exact Gz ⟨by unfold nl;decide,c.nlT hw (fun t ht=>g t (by simp[ht])),by unfold nl;decide,trivial⟩
 | .whi c b,hw,g,d,n=>by
  simp only[Cs.wf]at hw
  simp only[Cs.tk]at g
  have ib:=UR b hw.2 (fun t ht=>g t (by simp[ht])) (d+1) (n+1)
  have ic:=c.nlT hw.1 (fun t ht=>g t (by simp[ht]))
  rw[Cs.v,BJ,OA]
  rw[if_neg (by simp only[Sm.k];decide),if_pos (by simp only[Sm.k];decide)]
  intro x hx
  rcases List.mem_cons.1 hx with rfl|hx
  ·exact WE (Gz ⟨by unfold nl;decide,ic,by unfold nl;decide,trivial⟩)
  rcases List.mem_append.1 hx with hx|hx
  ·exact ib x hx
  ·rw[List.mem_singleton.1 hx];exact B1 (T4 d) (by unfold nl;decide)
 | .ite c b none,hw,g,d,n=>by
  simp only[Cs.wf]at hw
  simp only[Cs.tk]at g
  have ib:=UR b hw.2 (fun t ht=>g t (by simp[ht])) (d+1) (n+1)
  have ic:=c.nlT hw.1 (fun t ht=>g t (by simp[ht]))
  rw[Cs.v,BJ,FG]
  rw[if_pos (by simp only[Sm.k];decide),if_pos (by simp only[Sm.el];rfl),List.nil_append]
  intro x hx
  rcases List.mem_cons.1 hx with rfl|hx
  ·exact WE (Gz ⟨by unfold nl;decide,ic,by unfold nl;decide,trivial⟩)
  rcases List.mem_append.1 hx with hx|hx
  ·exact ib x hx
  ·rw[List.mem_singleton.1 hx];exact B1 (T4 d) (by unfold nl;decide)
 | .ite c b (some e),hw,g,d,n=>by
  simp only[Cs.wf]at hw
  simp only[Cs.tk]at g
  have ib:=UR b hw.2.1 (fun t ht=>g t (by simp[ht])) (d+1) (n+1)
  have ie:=UR e hw.2.2 (fun t ht=>g t (by simp[ht])) (d+1) (n+1+ctB b)
  have ic:=c.nlT hw.1 (fun t ht=>g t (by simp[ht]))
  rw[Cs.v,BJ,FG]
  rw[if_pos (by simp only[Sm.k];decide)]
  intro x hx
  rcases List.mem_cons.1 hx with rfl|hx
  ·exact WE (Gz ⟨by unfold nl;decide,ic,by unfold nl;decide,trivial⟩)
  rcases List.mem_append.1 hx with hx|hx
  ·exact ib x hx
  rcases List.mem_append.1 hx with hx|hx
  ·split at hx
   ·cases hx
   ·rcases List.mem_cons.1 hx with rfl|hx
    ·exact B1 (T4 d) (by unfold nl;decide)
    ·exact ie x hx
  ·rw[List.mem_singleton.1 hx];exact B1 (T4 d) (by unfold nl;decide)
theorem UR:∀(l:List Cs),wfB l→(∀t∈tkB l,tkG t)→∀(d:Nat) (n:Int),lnl (lnB d (vB n l))
 |[],_,_,d,n=>by simp only[vB,NW];intro x hx;cases hx
 |s::l,hw,g,d,n=>by
  have q:=A7u s hw.1 (fun t ht=>g t (by simp only[tkB];exact List.mem_append_left _ ht)) d n
  have p:=UR l hw.2 (fun t ht=>g t (by simp only[tkB];exact List.mem_append_right _ ht)) d (n+s.ct)
  simp only[vB,FY]
  intro x hx
  rcases List.mem_append.1 hx with hx|hx
  ·exact q x hx
  ·exact p x hx
end
mutual
theorem A31:∀(s:Cs) (n:Int),0≤n→noS (s.v n)∧htS (s.v n)≤3*s.ct
 | .asg x e,n,h=>by simp only[Cs.v,noS,noB,htS,Cs.ct];exact⟨⟨h,trivial,trivial⟩,by decide⟩
 | .adr x y,n,h=>by simp only[Cs.v,noS,noB,htS,Cs.ct];exact⟨⟨h,trivial,trivial⟩,by decide⟩
 | .nul x,n,h=>by simp only[Cs.v,noS,noB,htS,Cs.ct];exact⟨⟨h,trivial,trivial⟩,by decide⟩
 | .lod x y,n,h=>by simp only[Cs.v,noS,noB,htS,Cs.ct];exact⟨⟨h,trivial,trivial⟩,by decide⟩
 | .sto x e,n,h=>by simp only[Cs.v,noS,noB,htS,Cs.ct];exact⟨⟨h,trivial,trivial⟩,by decide⟩
 | .idx x y e,n,h=>by simp only[Cs.v,noS,noB,htS,Cs.ct];exact⟨⟨h,trivial,trivial⟩,by decide⟩
 | .put y e f,n,h=>by simp only[Cs.v,noS,noB,htS,Cs.ct];exact⟨⟨h,trivial,trivial⟩,by decide⟩
 | .cal none y l,n,h=>by simp only[Cs.v,noS,noB,htS,Cs.ct];exact⟨⟨h,trivial,trivial⟩,by decide⟩
 | .cal (some x) y l,n,h=>by simp only[Cs.v,noS,noB,htS,Cs.ct];exact⟨⟨h,trivial,trivial⟩,by decide⟩
 | .ret e,n,h=>by simp only[Cs.v,noS,noB,htS,Cs.ct];exact⟨⟨h,trivial,trivial⟩,by decide⟩
 | .ass c,n,h=>by simp only[Cs.v,noS,noB,htS,Cs.ct];exact⟨⟨h,trivial,trivial⟩,by decide⟩
 | .whi c b,n,h=>by
  obtain⟨b1,b2⟩:=Qi b (n+1) (by omega)
  refine⟨by simp only[Cs.v,noS,noB];exact⟨h,b1,trivial⟩,?_⟩
  rw[Cs.v,lB];simp only[Cs.ct];omega
 | .ite c b none,n,h=>by
  obtain⟨b1,b2⟩:=Qi b (n+1) (by omega)
  refine⟨by simp only[Cs.v,noS,noB];exact⟨h,b1,trivial⟩,?_⟩
  rw[Cs.v,cb];simp only[Cs.ct,List.isEmpty_nil,if_true];omega
 | .ite c b (some e),n,h=>by
  obtain⟨b1,b2⟩:=Qi b (n+1) (by omega)
  obtain⟨e1,e2⟩:=Qi e (n+1+ctB b) (by omega)
  refine⟨by simp only[Cs.v,noS];exact⟨h,b1,e1⟩,?_⟩
  rw[Cs.v,cb];simp only[Cs.ct];split<;>omega
theorem Qi:∀(l:List Cs) (n:Int),0≤n→noB (vB n l)∧htB (vB n l)≤3*ctB l
 |[],n,h=>by simp[vB,noB,htB,ctB]
 |s::l,n,h=>by
  obtain⟨a1,a2⟩:=A31 s n h
  obtain⟨b1,b2⟩:=Qi l (n+s.ct) (by omega)
  simp only[vB,noB,htB,ctB]
  exact⟨⟨a1,b1⟩,by omega⟩
end
theorem Zx:∀{a b:List Sm},noB a→noB b→noB (a++b)
 |[],b,_,h=>h
 |s::a,b,h,k=>by
  simp only[List.cons_append,noB]at h ⊢
  exact⟨h.1,Zx h.2 k⟩
theorem xc (f:Fn) (s:Sm):(rsS f s).1.no=s.no:=by
 obtain⟨k,x,y,e,g,cd,ar,th,el,no⟩:=s
 simp only[rsS]
 repeat' split
 all_goals rfl
theorem xd {s:Sm} {a b:List Sm} (h:0≤s.no) (ha:noB a) (hb:noB b):noS (s.wi a b):=by
 cases s;simp only[Sm.wi,noS];exact⟨h,ha,hb⟩
theorem A32 {s:Sm} (h:noS s):0≤s.no∧noB s.th∧noB s.el:=by
 cases s;simp only[noS]at h;exact h
theorem gN {f:Fn} {h:List Sm→List Sm×Int} (hh:∀l,noB l→noB (h l).1):∀(l out:List Sm),noB out→noB l→noB (rsW h f out l).1
 |[],out,ho,_=>ho
 |s::r,out,ho,hl=>by
  simp only[noB]at hl
  obtain⟨q1,q2,q3⟩:=A32 hl.1
  have t1:noB (rsS f s).1.th:=by rcases (Xy f s).1 with e|e<;>rw[e];exact q2;trivial
  have t2:noB (rsS f s).1.el:=by rcases (Xy f s).2 with e|e<;>rw[e];exact q3;trivial
  simp only[rsW]
  split
  ·split
   ·trivial
   split
   ·trivial
   ·refine gN hh r _ (Zx ho ?_) hl.2
    simp only[noB]
    exact⟨xd (by rw[xc];exact q1) (hh _ t1) (hh _ t2),trivial⟩
  ·trivial
theorem gO (f:Fn):∀(m:Nat) (l:List Sm),noB l→noB (rsN f m l).1
 |0,l,_=>trivial
 |m+1,l,h=>gN (gO f m) l [] trivial h
structure RnF (f:Fn):Prop where
 n:lnl (lnF f)
 l:(lnF f).length≤1000
 no:noB f.body
 h:htB f.body≤1000
theorem A33 {l:List Vr} (h:∀v∈l,nl v.s):nl (jnT (l.map vrT)):=by
 refine cH fun t ht=>?_
 obtain⟨v,hv,rfl⟩:=List.mem_map.1 ht
 unfold vrT
 split
 ·exact B1 (by unfold nl;decide) (h v hv)
 ·exact h v hv
theorem nN {t:List UInt8} {f:Cf} (h:mkQ t f):RnF f.v:=by
 obtain⟨T,e1,e2⟩:=TR h.z h.l
 have g:=oh h.l e1
 rw[e2]at g
 have hk:=h.ok
 have hb:=UR f.body hk.w (fun t ht=>g t (by simp[Cf.tk,ht])) 1 0
 have hc:=Qi f.body 0 (Int.le_refl _)
 have hct:=h.c
 have hll:=hk.ll
 refine⟨?_,?_,hc.1,by show htB (vB 0 f.body)≤1000;omega⟩
 ·intro x hx
  rw[Lh]at hx
  rcases List.mem_cons.1 hx with rfl|hx
  ·exact Zw (Gz ⟨by unfold nl;decide,Dj (g (0,f.name) (by simp[Cf.tk])),by unfold nl;decide,A33 (fun v hv=>Dj (g (0,v.s) (by simp[Cf.tk,mP,dw (show v∈f.ps from hv)]))),by unfold nl;decide,trivial⟩)
  rcases List.mem_append.1 hx with hx|hx
  ·obtain⟨v,hv,rfl⟩:=List.mem_map.1 (show x∈f.ls.map (fun v=>(⟨locT v,-1⟩:Ln)) from hx)
   have hv':=Dj (g (0,v.s) (by simp[Cf.tk,dx hv]))
   show nl (locT v)
   unfold locT
   refine B1 (B1 (B1 (by unfold nl;decide) ?_) hv') (by unfold nl;decide)
   split
   ·unfold nl;decide
   ·unfold nl;decide
  rcases List.mem_append.1 hx with hx|hx
  ·exact hb x hx
  ·rw[List.mem_singleton.1 hx];show nl [125];unfold nl;decide
 ·rw[Lh]
  have hh:(lcL f.v.ls).length=f.ls.length:=by simp[lcL,Cf.v]
  have h2:(lnB 1 f.v.body).length=htB (vB 0 f.body):=IA 1 _
  simp only[List.length_cons,List.length_append,List.length_nil,hh,h2]
  omega
theorem T5:RnF fn0:=⟨by intro x hx;revert x;unfold nl;decide,by decide,trivial,by decide⟩
theorem xe {s:Int} {b:List Int} (hs:0≤s) (hb:okY b):RnF (fnA s b):=by
 obtain⟨f,q,e,_,t1,t2⟩:=eg hs hb
 have r:=bM q t1 t2
 have n:=nN q
 have hd:=bh (txT s b)
 rw[e]at hd
 unfold fnA fnF pgF
 dsimp only
 rw[e]
 rw[if_neg (show ¬((0:Int) != 0)=true by decide)]
 by_cases c:((Eo f.v (nmS s) (dpM (txT s b))).2.2 != 0)=true
 ·rw[if_pos c];exact T5
 rw[if_neg c]
 show RnF (Eo f.v (nmS s) (dpM (txT s b))).1
 unfold Eo at c ⊢
 by_cases c1:(f.v.name != nmS s||f.v.name==KH)=true
 ·rw[if_pos c1];exact T5
 rw[if_neg c1]at c ⊢
 by_cases c2:M1 [] (f.v.ps++f.v.ls)=true
 ·rw[if_pos c2];exact T5
 rw[if_neg c2]at c ⊢
 by_cases c3:0≤(rsN f.v (dpM (txT s b)) f.v.body).2
 ·rw[if_pos c3];exact T5
 rw[if_neg c3]at c ⊢
 have k:=Wz (n:=5000) (by decide) _ 8 _ r.p r.r (RJ f.body 0 8 (by omega)) hd c3
 have eL:lnF ⟨f.v.name,f.v.ps,f.v.ls,(rsN f.v (dpM (txT s b)) f.v.body).1⟩=lnF f.v:=by
  rw[Lh,Lh]
  show _::(_++(lnB 1 (rsN f.v (dpM (txT s b)) f.v.body).1++_))=_
  rw[k.t];rfl
 refine⟨by rw[eL];exact n.n,by rw[eL];exact n.l,gO f.v _ _ n.no,?_⟩
 show htB (rsN f.v (dpM (txT s b)) f.v.body).1≤1000
 rw[← IA 1,k.t,IA];exact n.h
end Go.Proofs.YtbiepiggmagfcaaGreatDoor
