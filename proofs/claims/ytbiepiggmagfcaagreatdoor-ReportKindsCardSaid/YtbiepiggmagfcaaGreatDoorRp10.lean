/- No line of a function that was read holds a line's end; the resolver keeps numbers. No conditions but those in each statement. -/
import Derived.Test.YtbiepiggmagfcaaGreatDoorPg1
import Derived.Test.YtbiepiggmagfcaaGreatDoorBk2
set_option linter.unusedVariables false
set_option linter.unusedSimpArgs false
namespace Go.Proofs.YtbiepiggmagfcaaGreatDoor
open Go Go.Sy Go.Shelf Go.RowKit
def nl (t:List UInt8):Prop:=(10:UInt8)∉t
theorem nl_id {s:List UInt8} (h:∀c∈s,idB (c.toNat:Int)=true):nl s:=fun hm=>by
 have:=h _ hm;revert this;decide
theorem nl_dg {s:List UInt8} (h:∀c∈s,digB (c.toNat:Int)=true):nl s:=fun hm=>by
 have:=h _ hm;revert this;decide
theorem nl_nm {s:List UInt8} (g:tkG (0,s)):nl s:=nl_id (g.1 rfl).2
theorem nl_app {a b:List UInt8} (h:nl a) (k:nl b):nl (a++b):=fun hm=>by
 rcases List.mem_append.1 hm with h1|h1
 ·exact h h1
 ·exact k h1
theorem nl_en {p:Bool} {t:List UInt8} (h:nl t):nl (enT p t):=by
 cases p with
 |false=>exact h
 |true=>exact nl_app (nl_app (by unfold nl;decide) h) (by unfold nl;decide)
theorem nl_flat {l:List (List UInt8)} (h:∀t∈l,nl t):nl l.flatten:=fun hm=>by
 obtain⟨t,ht,hm⟩:=List.mem_flatten.1 hm
 exact h t ht hm
theorem Cx.nlT:∀c:Cx,c.wf→c.nm→(∀t∈c.tk,tkG t)→nl (exT c.v)
 | .num d,_,_,h=>by
  have:=((h _ (List.mem_singleton.2 rfl)).2 rfl).num
  show nl (exT (.mk 0 (numW d 0) [] .nil .nil))
  rw[ex0];exact nl_dg (dec_nu this.1 this.2).1.dg
 | .var s,_,_,h=>by
  show nl (exT (.mk 1 0 s .nil .nil))
  rw[ex1];exact nl_nm (h _ (List.mem_singleton.2 rfl))
 | .neg u,hw,hn,h=>by
  show nl (exT (.mk 7 0 [] u.v .nil))
  rw[ex7];exact nl_app (by unfold nl;decide) (nl_en (u.nlT hw.2 hn (fun t ht=>h t (List.mem_cons_of_mem _ ht))))
 | .par u,hw,hn,h=>u.nlT hw hn (fun t ht=>h t (List.mem_cons_of_mem _ (List.mem_append_left _ ht)))
 | .bin o a b,hw,hn,h=>by
  have ha:∀t∈a.tk,tkG t:=fun t ht=>h t (List.mem_append_left _ ht)
  have hb:∀t∈b.tk,tkG t:=fun t ht=>h t (List.mem_append_right _ (List.mem_cons_of_mem _ ht))
  show nl (exT (.mk o 0 [] a.v b.v))
  have hw2:a.wf∧b.wf∧(o=2∨o=3∨o=4∨o=5∨o=6):=by
   rcases hw with⟨ho,_,w1,w2⟩|⟨ho,_,_,w1,w2⟩
   ·exact⟨w1,w2,by omega⟩
   ·exact⟨w1,w2,by omega⟩
  obtain⟨w1,w2,hk⟩:=hw2
  have ia:=a.nlT w1 hn.1 ha
  have ib:=b.nlT w2 hn.2 hb
  rcases hk with rfl|rfl|rfl|rfl|rfl
  ·rw[ex2];exact nl_app (nl_app ia (by unfold nl;decide)) (nl_en ib)
  ·rw[ex3];exact nl_app (nl_app ia (by unfold nl;decide)) (nl_en ib)
  ·rw[ex4];exact nl_app (nl_app (nl_en ia) (by unfold nl;decide)) (nl_en ib)
  ·rw[ex5];exact nl_app (nl_app (nl_en ia) (by unfold nl;decide)) (nl_en ib)
  ·rw[ex6];exact nl_app (nl_app (nl_en ia) (by unfold nl;decide)) (nl_en ib)
theorem exO.nl {e:Cx} (h:exO e) (g:∀t∈e.tk,tkG t):nl (exT e.v):=e.nlT h.1 h.2 g
theorem Cc.nlT:∀c:Cc,c.wf→(∀t∈c.tk,tkG t)→nl (coT c.v)
 | .cmp o a b,hw,h=>by
  obtain⟨ho,wa,wb,na,nb,_⟩:=hw
  have ia:=a.nlT wa na (fun t ht=>h t (List.mem_append_left _ ht))
  have ib:=b.nlT wb nb (fun t ht=>h t (List.mem_append_right _ (List.mem_cons_of_mem _ ht)))
  show nl (coT (.mk (o:Int) a.v b.v .nil .nil []))
  rw[cmp_t (by omega) (by omega),Int.toNat_natCast]
  refine nl_app (nl_app ia ?_) ib
  match o,ho with
  |0,_=>unfold nl;decide
  |1,_=>unfold nl;decide
  |2,_=>unfold nl;decide
  |3,_=>unfold nl;decide
  |4,_=>unfold nl;decide
  |5,_=>unfold nl;decide
 | .nul s ne,hw,h=>by
  have hs:=nl_nm (h (0,s) (List.mem_cons_self ..))
  cases ne with
  |true=>
   show nl (coT (.mk 8 .nil .nil (.mk 9 .nil .nil .nil .nil s) .nil []))
   rw[co8,if_pos (show isB 9 (Cd.mk 9 Ex.nil Ex.nil Cd.nil Cd.nil s)=true from rfl)];exact nl_app hs (by unfold nl;decide)
  |false=>
   show nl (coT (.mk 9 .nil .nil .nil .nil s))
   rw[co9];exact nl_app hs (by unfold nl;decide)
 | .not u,hw,h=>by
  have iu:=u.nlT hw.1 (fun t ht=>h t (List.mem_cons_of_mem _ ht))
  show nl (coT (.mk 8 .nil .nil u.v .nil []))
  rw[co8]
  cases h9:isB 9 u.v with
  |false=>rw[if_neg (by decide)];exact nl_app (by unfold nl;decide) (nl_en iu)
  |true=>
   rw[if_pos rfl]
   cases hv:u.v with
   |nil=>exact nl_app (by unfold nl;decide) (by unfold nl;decide)
   |mk k a b p q s=>
    rw[hv]at h9 iu
    have hk:k=9:=eq_of_beq h9
    subst hk
    rw[co9]at iu
    exact nl_app (fun hm=>iu (List.mem_append_left _ hm)) (by unfold nl;decide)
 | .par u,hw,h=>u.nlT hw (fun t ht=>h t (List.mem_cons_of_mem _ (List.mem_append_left _ ht)))
 | .and a b,hw,h=>by
  have ia:=a.nlT hw.1 (fun t ht=>h t (List.mem_append_left _ ht))
  have ib:=b.nlT hw.2.1 (fun t ht=>h t (List.mem_append_right _ (List.mem_cons_of_mem _ ht)))
  show nl (coT (.mk 6 .nil .nil a.v b.v []))
  rw[co6];exact nl_app (nl_app (nl_en ia) (by unfold nl;decide)) (nl_en ib)
 | .or a b,hw,h=>by
  have ia:=a.nlT hw.1 (fun t ht=>h t (List.mem_append_left _ ht))
  have ib:=b.nlT hw.2.1 (fun t ht=>h t (List.mem_append_right _ (List.mem_cons_of_mem _ ht)))
  show nl (coT (.mk 7 .nil .nil a.v b.v []))
  rw[co7];exact nl_app (nl_app ia (by unfold nl;decide)) (nl_en ib)
theorem nl_jn:∀{l:List (List UInt8)},(∀t∈l,nl t)→nl (jnT l)
 |[],_=>by unfold nl;decide
 |[a],h=>by rw[jn_1];exact h a (by simp)
 |a::b::l,h=>by
  rw[jn_2]
  exact nl_app (h a (by simp)) (nl_app (by unfold nl;decide) (nl_jn (fun t ht=>h t (List.mem_cons_of_mem _ ht))))
theorem nl_ag {l:List Cx} (hw:∀e∈l,exO e) (g:∀t∈agK l,tkG t):nl (jnT ((agA l).map argX)):=by
 refine nl_jn fun t ht=>?_
 obtain⟨a,ha,rfl⟩:=List.mem_map.1 ht
 obtain⟨c,hc,rfl⟩:=List.mem_map.1 ha
 exact(hw c hc).nl (fun t ht=>g t (ag_mem hc ht))
theorem nl_tb (d:Nat):nl (tbs d):=fun hm=>by
 have:=List.eq_of_mem_replicate hm
 revert this;decide
def lnl (l:List Ln):Prop:=∀x∈l,nl x.t
theorem lnl_o {d:Nat} {ps:List (List UInt8)} {n:Int} (h:∀t∈ps,nl t):nl (lnO d ps.flatten n).t:=nl_app (nl_tb d) (nl_flat h)
theorem lnl_fl {d:Nat} {s:Sm} (h1:(s.k==10)=false) (h2:(s.k==11)=false) (h:∀t∈hdL s,nl t):lnl (lnS d s):=by
 rw[lnS_eq,h1,h2,if_neg (by decide),if_neg (by decide)]
 intro x hx
 rw[List.mem_singleton.1 hx];exact lnl_o h
theorem mem3 {P:List UInt8→Prop} {l:List (List UInt8)} (h:l.foldr (fun t p=>P t∧p) True):∀t∈l,P t:=by
 induction l with
 |nil=>intro t ht;cases ht
 |cons a l ih=>
  intro t ht
  rcases List.mem_cons.1 ht with rfl|ht
  ·exact h.1
  ·exact ih h.2 t ht
mutual
theorem nl_S:∀(s:Cs),s.wf→(∀t∈s.tk,tkG t)→∀(d:Nat) (n:Int),lnl (lnS d (s.v n))
 | .asg x e,hw,g,d,n=>by
  simp only[Cs.wf]at hw
  simp only[Cs.tk]at g
  rw[Cs.v]
  refine lnl_fl rfl rfl ?_
  rw[hdk0]
  exact mem3 ⟨nl_nm (g (0,x) (by simp)),by unfold nl;decide,hw.2.nl (fun t ht=>g t (by simp[ht])),by unfold nl;decide,trivial⟩
 | .adr x y,hw,g,d,n=>by
  simp only[Cs.wf]at hw
  simp only[Cs.tk]at g
  rw[Cs.v]
  refine lnl_fl rfl rfl ?_
  rw[hdk1]
  exact mem3 ⟨nl_nm (g (0,x) (by simp)),by unfold nl;decide,nl_nm (g (0,y) (by simp)),by unfold nl;decide,trivial⟩
 | .nul x,hw,g,d,n=>by
  simp only[Cs.wf]at hw
  simp only[Cs.tk]at g
  rw[Cs.v]
  refine lnl_fl rfl rfl ?_
  rw[hdk3]
  exact mem3 ⟨nl_nm (g (0,x) (by simp)),by unfold nl;decide,trivial⟩
 | .lod x y,hw,g,d,n=>by
  simp only[Cs.wf]at hw
  simp only[Cs.tk]at g
  rw[Cs.v]
  refine lnl_fl rfl rfl ?_
  rw[hdk4]
  exact mem3 ⟨nl_nm (g (0,x) (by simp)),by unfold nl;decide,nl_nm (g (0,y) (by simp)),by unfold nl;decide,trivial⟩
 | .sto x e,hw,g,d,n=>by
  simp only[Cs.wf]at hw
  simp only[Cs.tk]at g
  rw[Cs.v]
  refine lnl_fl rfl rfl ?_
  rw[hdk5]
  exact mem3 ⟨by unfold nl;decide,nl_nm (g (0,x) (by simp)),by unfold nl;decide,hw.2.nl (fun t ht=>g t (by simp[ht])),by unfold nl;decide,trivial⟩
 | .idx x y e,hw,g,d,n=>by
  simp only[Cs.wf]at hw
  simp only[Cs.tk]at g
  rw[Cs.v]
  refine lnl_fl rfl rfl ?_
  rw[hdk6]
  exact mem3 ⟨nl_nm (g (0,x) (by simp)),by unfold nl;decide,nl_nm (g (0,y) (by simp)),by unfold nl;decide,hw.2.2.nl (fun t ht=>g t (by simp[ht])),by unfold nl;decide,trivial⟩
 | .put y e f,hw,g,d,n=>by
  simp only[Cs.wf]at hw
  simp only[Cs.tk]at g
  rw[Cs.v]
  refine lnl_fl rfl rfl ?_
  rw[hdk7]
  exact mem3 ⟨nl_nm (g (0,y) (by simp)),by unfold nl;decide,hw.2.1.nl (fun t ht=>g t (by simp[ht])),by unfold nl;decide,hw.2.2.nl (fun t ht=>g t (by simp[ht])),by unfold nl;decide,trivial⟩
 | .cal none y l,hw,g,d,n=>by
  simp only[Cs.wf]at hw
  simp only[Cs.tk]at g
  rw[Cs.v]
  refine lnl_fl rfl rfl ?_
  rw[hdk8]
  exact mem3 ⟨by unfold nl;decide,nl_nm (g (0,y) (by simp)),by unfold nl;decide,nl_ag hw.2 (fun t ht=>g t (by simp[ht])),by unfold nl;decide,trivial⟩
 | .cal (some x) y l,hw,g,d,n=>by
  simp only[Cs.wf]at hw
  simp only[Cs.tk]at g
  have ht:tgtT x=x++[32,61,32]:=by
   obtain⟨c,q,e,_⟩:=hw.1.2
   rw[e];rfl
  rw[Cs.v]
  refine lnl_fl rfl rfl ?_
  rw[hdk8,ht]
  exact mem3 ⟨nl_app (nl_nm (g (0,x) (by simp))) (by unfold nl;decide),nl_nm (g (0,y) (by simp)),by unfold nl;decide,nl_ag hw.2.2 (fun t ht=>g t (by simp[ht])),by unfold nl;decide,trivial⟩
 | .ret e,hw,g,d,n=>by
  simp only[Cs.wf]at hw
  simp only[Cs.tk]at g
  rw[Cs.v]
  refine lnl_fl rfl rfl ?_
  rw[hdk9]
  exact mem3 ⟨by unfold nl;decide,hw.nl (fun t ht=>g t (by simp[ht])),by unfold nl;decide,trivial⟩
 | .ass c,hw,g,d,n=>by
  simp only[Cs.wf]at hw
  simp only[Cs.tk]at g
  rw[Cs.v]
  refine lnl_fl rfl rfl ?_
  rw[hdk12]
  exact mem3 ⟨by unfold nl;decide,c.nlT hw (fun t ht=>g t (by simp[ht])),by unfold nl;decide,trivial⟩
 | .whi c b,hw,g,d,n=>by
  simp only[Cs.wf]at hw
  simp only[Cs.tk]at g
  have ib:=nl_B b hw.2 (fun t ht=>g t (by simp[ht])) (d+1) (n+1)
  have ic:=c.nlT hw.1 (fun t ht=>g t (by simp[ht]))
  rw[Cs.v,lnS_eq,hdk11]
  rw[if_neg (by simp only[Sm.k];decide),if_pos (by simp only[Sm.k];decide)]
  intro x hx
  rcases List.mem_cons.1 hx with rfl|hx
  ·exact lnl_o (mem3 ⟨by unfold nl;decide,ic,by unfold nl;decide,trivial⟩)
  rcases List.mem_append.1 hx with hx|hx
  ·exact ib x hx
  ·rw[List.mem_singleton.1 hx];exact nl_app (nl_tb d) (by unfold nl;decide)
 | .ite c b none,hw,g,d,n=>by
  simp only[Cs.wf]at hw
  simp only[Cs.tk]at g
  have ib:=nl_B b hw.2 (fun t ht=>g t (by simp[ht])) (d+1) (n+1)
  have ic:=c.nlT hw.1 (fun t ht=>g t (by simp[ht]))
  rw[Cs.v,lnS_eq,hdk10]
  rw[if_pos (by simp only[Sm.k];decide),if_pos (by simp only[Sm.el];rfl),List.nil_append]
  intro x hx
  rcases List.mem_cons.1 hx with rfl|hx
  ·exact lnl_o (mem3 ⟨by unfold nl;decide,ic,by unfold nl;decide,trivial⟩)
  rcases List.mem_append.1 hx with hx|hx
  ·exact ib x hx
  ·rw[List.mem_singleton.1 hx];exact nl_app (nl_tb d) (by unfold nl;decide)
 | .ite c b (some e),hw,g,d,n=>by
  simp only[Cs.wf]at hw
  simp only[Cs.tk]at g
  have ib:=nl_B b hw.2.1 (fun t ht=>g t (by simp[ht])) (d+1) (n+1)
  have ie:=nl_B e hw.2.2 (fun t ht=>g t (by simp[ht])) (d+1) (n+1+ctB b)
  have ic:=c.nlT hw.1 (fun t ht=>g t (by simp[ht]))
  rw[Cs.v,lnS_eq,hdk10]
  rw[if_pos (by simp only[Sm.k];decide)]
  intro x hx
  rcases List.mem_cons.1 hx with rfl|hx
  ·exact lnl_o (mem3 ⟨by unfold nl;decide,ic,by unfold nl;decide,trivial⟩)
  rcases List.mem_append.1 hx with hx|hx
  ·exact ib x hx
  rcases List.mem_append.1 hx with hx|hx
  ·split at hx
   ·cases hx
   ·rcases List.mem_cons.1 hx with rfl|hx
    ·exact nl_app (nl_tb d) (by unfold nl;decide)
    ·exact ie x hx
  ·rw[List.mem_singleton.1 hx];exact nl_app (nl_tb d) (by unfold nl;decide)
theorem nl_B:∀(l:List Cs),wfB l→(∀t∈tkB l,tkG t)→∀(d:Nat) (n:Int),lnl (lnB d (vB n l))
 |[],_,_,d,n=>by simp only[vB,lnB_nil];intro x hx;cases hx
 |s::l,hw,g,d,n=>by
  have q:=nl_S s hw.1 (fun t ht=>g t (by simp only[tkB];exact List.mem_append_left _ ht)) d n
  have p:=nl_B l hw.2 (fun t ht=>g t (by simp only[tkB];exact List.mem_append_right _ ht)) d (n+s.ct)
  simp only[vB,lnB_cons]
  intro x hx
  rcases List.mem_append.1 hx with hx|hx
  ·exact q x hx
  ·exact p x hx
end
mutual
theorem no_vS:∀(s:Cs) (n:Int),0≤n→noS (s.v n)∧htS (s.v n)≤3*s.ct
 | .asg x e,n,h=>by simp only[Cs.v,noS,noB,htS,Cs.ct];exact⟨⟨h,trivial,trivial⟩,by decide⟩
 | .adr x y,n,h=>by simp only[Cs.v,noS,noB,htS,Cs.ct];exact⟨⟨h,trivial,trivial⟩,by decide⟩
 | .nul x,n,h=>by simp only[Cs.v,noS,noB,htS,Cs.ct];exact⟨⟨h,trivial,trivial⟩,by decide⟩
 | .lod x y,n,h=>by simp only[Cs.v,noS,noB,htS,Cs.ct];exact⟨⟨h,trivial,trivial⟩,by decide⟩
 | .sto x e,n,h=>by simp only[Cs.v,noS,noB,htS,Cs.ct];exact⟨⟨h,trivial,trivial⟩,by decide⟩
 | .idx x y e,n,h=>by simp only[Cs.v,noS,noB,htS,Cs.ct];exact⟨⟨h,trivial,trivial⟩,by decide⟩
 | .put y e f,n,h=>by simp only[Cs.v,noS,noB,htS,Cs.ct];exact⟨⟨h,trivial,trivial⟩,by decide⟩
 | .cal none y l,n,h=>by simp only[Cs.v,noS,noB,htS,Cs.ct];exact⟨⟨h,trivial,trivial⟩,by decide⟩
 | .cal (some x) y l,n,h=>by simp only[Cs.v,noS,noB,htS,Cs.ct];exact⟨⟨h,trivial,trivial⟩,by decide⟩
 | .ret e,n,h=>by simp only[Cs.v,noS,noB,htS,Cs.ct];exact⟨⟨h,trivial,trivial⟩,by decide⟩
 | .ass c,n,h=>by simp only[Cs.v,noS,noB,htS,Cs.ct];exact⟨⟨h,trivial,trivial⟩,by decide⟩
 | .whi c b,n,h=>by
  obtain⟨b1,b2⟩:=no_vB b (n+1) (by omega)
  refine⟨by simp only[Cs.v,noS,noB];exact⟨h,b1,trivial⟩,?_⟩
  rw[Cs.v,ht11];simp only[Cs.ct];omega
 | .ite c b none,n,h=>by
  obtain⟨b1,b2⟩:=no_vB b (n+1) (by omega)
  refine⟨by simp only[Cs.v,noS,noB];exact⟨h,b1,trivial⟩,?_⟩
  rw[Cs.v,ht10];simp only[Cs.ct,List.isEmpty_nil,if_true];omega
 | .ite c b (some e),n,h=>by
  obtain⟨b1,b2⟩:=no_vB b (n+1) (by omega)
  obtain⟨e1,e2⟩:=no_vB e (n+1+ctB b) (by omega)
  refine⟨by simp only[Cs.v,noS];exact⟨h,b1,e1⟩,?_⟩
  rw[Cs.v,ht10];simp only[Cs.ct];split<;>omega
theorem no_vB:∀(l:List Cs) (n:Int),0≤n→noB (vB n l)∧htB (vB n l)≤3*ctB l
 |[],n,h=>by simp[vB,noB,htB,ctB]
 |s::l,n,h=>by
  obtain⟨a1,a2⟩:=no_vS s n h
  obtain⟨b1,b2⟩:=no_vB l (n+s.ct) (by omega)
  simp only[vB,noB,htB,ctB]
  exact⟨⟨a1,b1⟩,by omega⟩
end
structure RnF (f:Fn):Prop where
 n:lnl (lnF f)
 l:(lnF f).length≤1000
 no:noB f.body
 h:htB f.body≤1000
theorem nl_vr {l:List Vr} (h:∀v∈l,nl v.s):nl (jnT (l.map vrT)):=by
 refine nl_jn fun t ht=>?_
 obtain⟨v,hv,rfl⟩:=List.mem_map.1 ht
 unfold vrT
 split
 ·exact nl_app (by unfold nl;decide) (h v hv)
 ·exact h v hv
theorem cf_rn {t:List UInt8} {f:Cf} (h:mkQ t f):RnF f.v:=by
 obtain⟨T,e1,e2⟩:=rx_all h.z h.l
 have g:=rx_good h.l e1
 rw[e2]at g
 have hk:=h.ok
 have hb:=nl_B f.body hk.w (fun t ht=>g t (by simp[Cf.tk,ht])) 1 0
 have hc:=no_vB f.body 0 (Int.le_refl _)
 have hct:=h.c
 have hll:=hk.ll
 refine⟨?_,?_,hc.1,by show htB (vB 0 f.body)≤1000;omega⟩
 ·intro x hx
  rw[lnF_eq]at hx
  rcases List.mem_cons.1 hx with rfl|hx
  ·exact nl_flat (mem3 ⟨by unfold nl;decide,nl_nm (g (0,f.name) (by simp[Cf.tk])),by unfold nl;decide,nl_vr (fun v hv=>nl_nm (g (0,v.s) (by simp[Cf.tk,psN_K,ps_mem (show v∈f.ps from hv)]))),by unfold nl;decide,trivial⟩)
  rcases List.mem_append.1 hx with hx|hx
  ·obtain⟨v,hv,rfl⟩:=List.mem_map.1 (show x∈f.ls.map (fun v=>(⟨locT v,-1⟩:Ln)) from hx)
   have hv':=nl_nm (g (0,v.s) (by simp[Cf.tk,ls_mem hv]))
   show nl (locT v)
   unfold locT
   refine nl_app (nl_app (nl_app (by unfold nl;decide) ?_) hv') (by unfold nl;decide)
   split
   ·unfold nl;decide
   ·unfold nl;decide
  rcases List.mem_append.1 hx with hx|hx
  ·exact hb x hx
  ·rw[List.mem_singleton.1 hx];show nl [125];unfold nl;decide
 ·rw[lnF_eq]
  have hh:(lcL f.v.ls).length=f.ls.length:=by simp[lcL,Cf.v]
  have h2:(lnB 1 f.v.body).length=htB (vB 0 f.body):=lnB_ht 1 _
  simp only[List.length_cons,List.length_append,List.length_nil,hh,h2]
  omega
end Go.Proofs.YtbiepiggmagfcaaGreatDoor
