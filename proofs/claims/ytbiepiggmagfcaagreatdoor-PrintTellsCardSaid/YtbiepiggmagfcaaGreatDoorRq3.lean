/- The functions that the laws ask for: of known kinds, with their parts, and not too long as text. No conditions but those in each statement. -/
import Derived.Test.YtbiepiggmagfcaaGreatDoorRq2
import Derived.Test.YtbiepiggmagfcaaGreatDoorMc4
import Derived.Test.YtbiepiggmagfcaaGreatDoorPg1
import Derived.Test.YtbiepiggmagfcaaGreatDoorSy31
import Derived.Test.YtbiepiggmagfcaaGreatDoorOp
import Derived.Test.YtbiepiggmagfcaaGreatDoorPr6
import Derived.Test.YtbiepiggmagfcaaGreatDoorPp
import Derived.Test.YtbiepiggmagfcaaGreatDoorPa9
import Derived.Test.YtbiepiggmagfcaaGreatDoorPs5
set_option linter.unusedVariables false
set_option linter.unusedSimpArgs false
namespace Go.Proofs.YtbiepiggmagfcaaGreatDoor
open Go Go.Sy Go.RowKit
theorem wT_le {ts:List Kt} (h:∀t∈ts,t.2.length≤4096):wT ts≤ts.length*4296:=by
 induction ts with
 |nil=>exact Nat.zero_le _
 |cons t l ih=>
  have:=ih fun x hx=>h x (List.mem_cons_of_mem _ hx)
  have:=h t (by simp)
  rw[wT_cons,List.length_cons,Nat.succ_mul];omega
structure RqF (f:Fn):Prop where
 p:okPr 5000 8 f.body
 r:okRg 8 f.body
 pl:f.ps.length≤5000
 ll:f.ls.length≤5000
 l:(fnT f).length≤100000000
theorem lens_le {l:List (List UInt8)} {c:Nat} (h:∀x∈l,x.length≤c):Lib.lens l≤c*l.length:=by
 induction l with
 |nil=>exact Nat.zero_le _
 |cons a l ih=>
  have:=ih fun x hx=>h x (List.mem_cons_of_mem _ hx)
  have:=h a (by simp)
  simp only[Lib.lens,List.map_cons,List.sum_cons,List.length_cons,Nat.mul_succ]at *;omega
theorem lc_le {l:List Vr} (h:∀v∈l,v.s.length≤1):(lnX (lcL l)).length≤8*l.length:=by
 induction l with
 |nil=>exact Nat.zero_le _
 |cons a l ih=>
  have:=ih fun x hx=>h x (List.mem_cons_of_mem _ hx)
  have:=h a (by simp)
  have e:(locT a).length=a.s.length+6:=by
   obtain⟨s,p⟩:=a
   cases p<;>simp[locT]<;>omega
  show (lnX (⟨locT a,-1⟩::lcL l)).length≤_
  rw[lnX_cons,List.length_append,List.length_append,e,List.length_cons]
  simp only[List.length_cons,List.length_nil];omega
theorem cf_rq {t:List UInt8} {f:Cf} (h:mkQ t f) (h1:f.tk.length≤4096) (h2:∀t∈f.tk,t.2.length≤4096):RqF f.v:=by
 have h3:(tkB f.body).length≤f.tk.length∧∀t∈tkB f.body,t∈f.tk:=by
  unfold Cf.tk
  refine⟨by simp only[List.length_cons,List.length_append];omega,fun t ht=>by simp[ht]⟩
 have hd:=h.d
 have a:=rq_B f.body 5000 8 1 0 h.ok.w (by omega) (by omega) (by omega) (by omega)
 have w:=wT_le (ts:=tkB f.body) fun t ht=>h2 t (h3.2 t ht)
 have w2:(tkB f.body).length*4296≤4096*4296:=Nat.mul_le_mul_right _ (by omega)
 have al:=a.l
 have hp:=h.ok.pl
 have hl:=h.ok.ll
 refine⟨a.p,a.r,by show f.ps.length≤_;omega,by show f.ls.length≤_;omega,?_⟩
 rw[fnT_eq]
 have e1:=lc_le h.vl
 have e2:=jn_len (f.ps.map vrT)
 have e3:Lib.lens (f.ps.map vrT)≤2*(f.ps.map vrT).length:=lens_le fun x hx=>by
  obtain⟨v,hv,rfl⟩:=List.mem_map.1 hx
  have:=h.pl v hv
  unfold vrT
  split
  ·simp only[List.length_append,List.length_cons,List.length_nil];omega
  ·omega
 rw[List.length_map]at e2 e3
 have e4:=h.nl
 have e5:=lT_len 0 (fnH f.v)
 have e6:(fnH f.v).flatten.length=3+(f.name.length+(1+((jnT (f.ps.map vrT)).length+3))):=by
  show [_,f.name,_,jnT (f.ps.map vrT),_].flatten.length=_
  simp only[List.flatten_cons,List.flatten_nil,List.length_append,List.length_cons,List.length_nil]
 have e7:=lT_len 0 [([125]:List UInt8)]
 show (lineT 0 (fnH f.v)++(lnX (lcL f.ls)++(lnX (lnB 1 (vB 0 f.body))++lineT 0 [[125]]))).length≤_
 simp only[List.length_append,List.flatten_cons,List.flatten_nil,List.length_cons,List.length_nil]at e5 e7 ⊢
 omega
structure Kp (n:Nat) (s s1:Sm):Prop where
 p:PrS n s1
 r:RgS s1
 h:(hdL s1).flatten=(hdL s).flatten
 no:s1.no=s.no
 k:(s1.k=s.k∧s1.th=s.th∧s1.el=s.el)∨(s.k=0∧s1.k=2∧s1.th=[]∧s1.el=[])
theorem Kp.refl {n:Nat} {s:Sm} (p:PrS n s) (r:RgS s):Kp n s s:=⟨p,r,rfl,rfl,.inl ⟨rfl,rfl,rfl⟩⟩
theorem ptr_nm {f:Fn} {e:Ex} (h:ptrF f e=true):exT e=e.nm∧∃n s a b,e= .mk 1 n s a b:=by
 cases e with
 |nil=>cases h
 |mk k n s a b=>
  simp only[ptrF,Bool.and_eq_true,beq_iff_eq]at h
  obtain⟨rfl,_⟩:=h
  exact⟨ex1 n s a b,n,s,a,b,rfl⟩
theorem ra_x (f:Fn) (a:Ar):argX (raS f a).1=argX a:=by
 unfold raS
 split
 ·rfl
 split
 ·rename_i h1 h2
  have h1:a.p=false:=by simpa using h1
  show a.e.nm=_
  unfold argX
  rw[if_neg (by rw[h1];decide),(ptr_nm h2).1]
 ·rfl
theorem rs_kp {f:Fn} {n:Nat} {s:Sm} (hp:PrS n s) (hr:RgS s) (hn:0<n) (h:(rsS f s).2=true):Kp n s (rsS f s).1:=by
 obtain⟨k,x,y,e,g,cd,ar,th,el,no⟩:=s
 have re:=Kp.refl hp hr
 by_cases k0:(k==0)=true
 ·have hk:k=0:=eq_of_beq k0
  subst hk
  by_cases c1:(kinF f x==2)=true
  ·by_cases c2:ptrF f e=true
   ·have e0:(rsS f (.mk 0 x y e g cd ar th el no)).1= .mk 2 x e.nm .nil .nil .nil [] [] [] no:=by
     simp only[rsS];rw[if_pos k0,if_pos c1,if_pos c2]
    rw[e0]
    refine⟨⟨⟨hn,hn,hn,fun a h=>(by cases h),Nat.zero_le _⟩,by show (0:Int)≤2;decide,by show (2:Int)≤12;decide,trivial,trivial,trivial,fun a h=>(by cases h)⟩,?_,?_,rfl,.inr ⟨rfl,rfl,rfl,rfl⟩⟩
    ·refine⟨fun h=>?_,fun h=>?_,fun h=>?_,fun h=>?_⟩<;>simp only[Sm.k]at h<;>omega
    ·rw[hdk2,hdk0,(ptr_nm c2).1]
   ·simp only[rsS]at h
    rw[if_pos k0,if_pos c1,if_neg c2]at h
    cases h
  ·have e0:(rsS f (.mk 0 x y e g cd ar th el no)).1= .mk 0 x y e g cd ar th el no:=by
    simp only[rsS];rw[if_pos k0,if_neg c1]
   rw[e0];exact re
 ·by_cases k8:(k==8)=true
  ·have hk:k=8:=eq_of_beq k8
   subst hk
   have e0:(rsS f (.mk 8 x y e g cd ar th el no)).1= .mk 8 x y e g cd (raL f ar) th el no:=rfl
   rw[e0]
   obtain⟨⟨o1,o2,o3,o4,o5⟩,p1,p2,p3,p4,p5,p6⟩:=hp
   refine⟨⟨⟨o1,o2,o3,fun a ha=>?_,by show (raL f ar).length≤_;unfold raL;rw[List.length_map];exact o5⟩,p1,p2,p3,p4,p5,fun a ha=>?_⟩,⟨hr.e,hr.f,hr.c,fun hk a ha hp=>?_⟩,?_,rfl,.inl ⟨rfl,rfl,rfl⟩⟩
   ·obtain⟨b,hb,rfl⟩:=List.mem_map.1 (show a∈ar.map (fun a=>(raS f a).1) from ha)
    unfold raS
    split
    ·exact o4 b hb
    split
    ·exact hn
    ·exact o4 b hb
   ·obtain⟨b,hb,rfl⟩:=List.mem_map.1 (show a∈ar.map (fun a=>(raS f a).1) from ha)
    unfold raS
    split
    ·exact p6 b hb
    split
    ·trivial
    ·exact p6 b hb
   ·obtain⟨b,hb,rfl⟩:=List.mem_map.1 (show a∈ar.map (fun a=>(raS f a).1) from ha)
    unfold raS at hp ⊢
    split at hp
    ·rename_i h1;rw[if_pos h1];exact hr.a rfl b hb hp
    split at hp
    ·cases hp
    ·rename_i h1 h2
     rw[if_neg h1,if_neg h2];exact hr.a rfl b hb hp
   ·rw[hdk8,hdk8]
    have:(raL f ar).map argX=ar.map argX:=by
     unfold raL;rw[List.map_map];exact List.map_congr_left fun a _=>ra_x f a
    rw[this]
  ·have e0:(rsS f (.mk k x y e g cd ar th el no)).1= .mk k x y e g cd ar th el no:=by
    simp only[rsS]
    rw[if_neg k0]
    repeat' (first|rfl|(rw[if_neg k8])|split)
   rw[e0];exact re
theorem wi_all (s:Sm) (a b:List Sm):hdL (s.wi a b)=hdL s∧(s.wi a b).no=s.no∧(s.wi a b).k=s.k∧(s.wi a b).th=a∧(s.wi a b).el=b:=by
 cases s;exact⟨rfl,rfl,rfl,rfl,rfl⟩
theorem wi_p {n:Nat} {s:Sm} (h:PrS n s) (a b:List Sm):PrS n (s.wi a b):=by
 cases s;exact⟨⟨h.ok.e,h.ok.f,h.ok.c,h.ok.a,h.ok.l⟩,h.k0,h.k1,h.e,h.f,h.c,h.a⟩
theorem wi_r {s:Sm} (h:RgS s) (a b:List Sm):RgS (s.wi a b):=by
 cases s;exact⟨h.e,h.f,h.c,h.a⟩
structure Kpl (n m:Nat) (l l':List Sm):Prop where
 p:okPr n m l'
 r:okRg m l'
 t:∀d,lnB d l'=lnB d l
def okNo:Nat→List Sm→Prop
 |0,_=>True
 |m+1,l=>∀s∈l,0≤s.no∧okNo m s.th∧okNo m s.el
theorem okNo_nil (m:Nat):okNo m []:=by
 cases m with
 |zero=>trivial
 |succ m=>intro s hs;cases hs
mutual
theorem no_S:∀(s:Cs) (n:Int) (m:Nat),0≤n→0≤(s.v n).no∧okNo m (s.v n).th∧okNo m (s.v n).el
 | .asg x e,n,m,h=>⟨h,okNo_nil _,okNo_nil _⟩
 | .adr x y,n,m,h=>⟨h,okNo_nil _,okNo_nil _⟩
 | .nul x,n,m,h=>⟨h,okNo_nil _,okNo_nil _⟩
 | .lod x y,n,m,h=>⟨h,okNo_nil _,okNo_nil _⟩
 | .sto x e,n,m,h=>⟨h,okNo_nil _,okNo_nil _⟩
 | .idx x y e,n,m,h=>⟨h,okNo_nil _,okNo_nil _⟩
 | .put y e f,n,m,h=>⟨h,okNo_nil _,okNo_nil _⟩
 | .cal none y l,n,m,h=>⟨h,okNo_nil _,okNo_nil _⟩
 | .cal (some x) y l,n,m,h=>⟨h,okNo_nil _,okNo_nil _⟩
 | .ret e,n,m,h=>⟨h,okNo_nil _,okNo_nil _⟩
 | .ass c,n,m,h=>⟨h,okNo_nil _,okNo_nil _⟩
 | .whi c b,n,m,h=>⟨h,no_B b (n+1) m (by omega),okNo_nil _⟩
 | .ite c b none,n,m,h=>⟨h,no_B b (n+1) m (by omega),okNo_nil _⟩
 | .ite c b (some e),n,m,h=>⟨h,no_B b (n+1) m (by omega),no_B e (n+1+ctB b) m (by omega)⟩
theorem no_B:∀(l:List Cs) (n:Int) (m:Nat),0≤n→okNo m (vB n l)
 |[],n,m,h=>by rw[vB];exact okNo_nil _
 |s::l,n,m,h=>by
  rw[vB]
  cases m with
  |zero=>trivial
  |succ m=>
   intro x hx
   rcases List.mem_cons.1 hx with rfl|hx
   ·exact no_S s n m h
   ·exact no_B l (n+s.ct) (m+1) (by omega) x hx
end
structure Pn (n m n' m':Nat) (s:Sm):Prop where
 p:PrS n s
 r:RgS s
 no:0≤s.no
 pt:okPr n m s.th
 pe:okPr n m s.el
 rt:okRg m s.th
 re:okRg m s.el
 nt:okNo m s.th
 ne:okNo m s.el
 bt:okB n' m' s.th
 be:okB n' m' s.el
theorem rsW_kp {f:Fn} {n m n' m':Nat} (hn:0<n) {h:List Sm→List Sm×Int} (hh:∀l,okPr n m l→okRg m l→okNo m l→okB n' m' l→¬0≤(h l).2→Kpl n m l (h l).1):∀(l out l0:List Sm),(∀s∈l,Pn n m n' m' s)→
  (∀s∈out,(PrS n s∧okPr n m s.th∧okPr n m s.el)∧(RgS s∧okRg m s.th∧okRg m s.el))→(∀d,lnB d out=lnB d l0)→¬0≤(rsW h f out l).2→
  (∀s∈(rsW h f out l).1,(PrS n s∧okPr n m s.th∧okPr n m s.el)∧(RgS s∧okRg m s.th∧okRg m s.el))∧(∀d,lnB d (rsW h f out l).1=lnB d (l0++l))∧(rsW h f out l).1.length=out.length+l.length
 |[],out,l0,_,ho,ht,_=>⟨ho,fun d=>by rw[List.append_nil];exact ht d,rfl⟩
 |s::r,out,l0,hl,ho,ht,hx=>by
  have hs:=hl s (by simp)
  simp only[rsW]at hx ⊢
  by_cases c1:(rsS f s).2=true
  ·rw[if_pos c1]at hx ⊢
   by_cases c2:0≤(h (rsS f s).1.th).2
   ·rw[if_pos c2]at hx;exact absurd c2 hx
   rw[if_neg c2]at hx ⊢
   by_cases c3:0≤(h (rsS f s).1.el).2
   ·rw[if_pos c3]at hx;exact absurd c3 hx
   rw[if_neg c3]at hx ⊢
   have kp:=rs_kp hs.p hs.r hn c1
   have hr0:okRg m []:=by
    cases m with
    |zero=>exact hs.pt.elim
    |succ m=>intro s hs;cases hs
   have k1:Kpl n m (rsS f s).1.th (h (rsS f s).1.th).1:=by
    rcases kp.k with⟨_,e1,_⟩|⟨_,_,e1,_⟩
    ·exact hh _ (by rw[e1];exact hs.pt) (by rw[e1];exact hs.rt) (by rw[e1];exact hs.nt) (by rw[e1];exact hs.bt) c2
    ·exact hh _ (by rw[e1];exact okPr_nil hs.pt) (by rw[e1];exact hr0) (by rw[e1];exact okNo_nil _) (by rw[e1];exact okB_nil hs.bt) c2
   have k2:Kpl n m (rsS f s).1.el (h (rsS f s).1.el).1:=by
    rcases kp.k with⟨_,_,e1⟩|⟨_,_,_,e1⟩
    ·exact hh _ (by rw[e1];exact hs.pe) (by rw[e1];exact hs.re) (by rw[e1];exact hs.ne) (by rw[e1];exact hs.be) c3
    ·exact hh _ (by rw[e1];exact okPr_nil hs.pt) (by rw[e1];exact hr0) (by rw[e1];exact okNo_nil _) (by rw[e1];exact okB_nil hs.bt) c3
   obtain⟨w1,w2,w3,w4,w5⟩:=wi_all (rsS f s).1 (h (rsS f s).1.th).1 (h (rsS f s).1.el).1
   have hE:(h (rsS f s).1.el).1.isEmpty=(rsS f s).1.el.isEmpty:=by
    have:=k2.t 0
    have key:∀l:List Sm,l.isEmpty=(lnB 0 l).isEmpty:=by
     intro l
     cases l with
     |nil=>rfl
     |cons a l=>rw[lnB_cons,lnS_eq];rfl
    rw[key,this,← key]
   have hS:∀d,lnS d ((rsS f s).1.wi (h (rsS f s).1.th).1 (h (rsS f s).1.el).1)=lnS d s:=by
    intro d
    rw[lnS_eq,lnS_eq d s,w1,w2,w3,w4,w5,kp.h,kp.no,k1.t,k2.t,hE]
    rcases kp.k with⟨e0,e1,e2⟩|⟨e0,e3,e1,e2⟩
    ·rw[e0,e1,e2]
    ·simp only[e0,e3,Int.reduceBEq,Bool.false_eq_true,if_false]
   have:=rsW_kp hn hh r (out++[(rsS f s).1.wi (h (rsS f s).1.th).1 (h (rsS f s).1.el).1]) (l0++[s]) (fun s' hs'=>hl s' (List.mem_cons_of_mem _ hs')) (fun s' hs'=>by
    rcases List.mem_append.1 hs' with hs'|hs'
    ·exact ho s' hs'
    ·rw[List.mem_singleton.1 hs',w4,w5]
     exact⟨⟨wi_p kp.p _ _,k1.p,k2.p⟩,wi_r kp.r _ _,k1.r,k2.r⟩) (fun d=>by rw[lnB_snoc,lnB_snoc,ht d,hS d]) hx
   refine⟨this.1,fun d=>by rw[this.2.1 d,List.append_assoc];rfl,by rw[this.2.2];simp only[List.length_append,List.length_cons,List.length_nil];omega⟩
  ·rw[if_neg c1]at hx
   exact absurd hs.no hx
theorem rsN_kp {f:Fn} {n n':Nat} (hn:0<n):∀(m' m:Nat) (l:List Sm),okPr n m l→okRg m l→okNo m l→okB n' m' l→¬0≤(rsN f m' l).2→Kpl n m l (rsN f m' l).1
 |0,_,_,_,_,_,h,_=>h.elim
 |_+1,0,_,h,_,_,_,_=>h.elim
 |m'+1,m+1,l,hp,hr,ho,hb,hx=>by
  have:=rsW_kp (n:=n) (m:=m) (n':=n') (m':=m') hn (rsN_kp (f:=f) hn m' m) l [] [] (fun s hs=>by
   obtain⟨a1,a2,a3⟩:=hp.2 s hs
   obtain⟨b1,b2,b3⟩:=hr s hs
   obtain⟨c1,c2,c3⟩:=ho s hs
   obtain⟨d1,d2,d3⟩:=hb.2 s hs
   exact⟨a1,b1,c1,a2,a3,b2,b3,c2,c3,d2,d3⟩) (fun s hs=>by cases hs) (fun d=>rfl) hx
  refine⟨⟨?_,fun s hs=>(this.1 s hs).1⟩,fun s hs=>(this.1 s hs).2,fun d=>by rw[show rsN f (m'+1) l=rsW (rsN f m') f [] l from rfl,this.2.1 d];rfl⟩
  rw[show rsN f (m'+1) l=rsW (rsN f m') f [] l from rfl,this.2.2]
  have:=hp.1
  simp only[List.length_nil];omega
theorem fn0_rq:RqF fn0:=⟨⟨Nat.zero_le _,(fun s hs=>by cases hs)⟩,(fun s hs=>by cases hs),Nat.zero_le _,Nat.zero_le _,by decide⟩
theorem fnA_rq {s:Int} {b:List Int} (hs:0≤s) (hb:okY b):RqF (fnA s b):=by
 obtain⟨f,q,e,_,t1,t2⟩:=mk_fun hs hb
 have r:=cf_rq q t1 t2
 have hd:=dp_ok (txT s b)
 rw[e]at hd
 unfold fnA fnF pgF
 dsimp only
 rw[e]
 rw[if_neg (show ¬((0:Int) != 0)=true by decide)]
 by_cases c:((resF f.v (nmS s) (dpM (txT s b))).2.2 != 0)=true
 ·rw[if_pos c];exact fn0_rq
 rw[if_neg c]
 show RqF (resF f.v (nmS s) (dpM (txT s b))).1
 unfold resF at c ⊢
 by_cases c1:(f.v.name != nmS s||f.v.name==gloB)=true
 ·rw[if_pos c1];exact fn0_rq
 rw[if_neg c1]at c ⊢
 by_cases c2:dupR [] (f.v.ps++f.v.ls)=true
 ·rw[if_pos c2];exact fn0_rq
 rw[if_neg c2]at c ⊢
 by_cases c3:0≤(rsN f.v (dpM (txT s b)) f.v.body).2
 ·rw[if_pos c3];exact fn0_rq
 rw[if_neg c3]at c ⊢
 have k:=rsN_kp (n:=5000) (by decide) _ 8 _ r.p r.r (no_B f.body 0 8 (by omega)) hd c3
 refine⟨k.p,k.r,r.pl,r.ll,?_⟩
 have:fnT ⟨f.v.name,f.v.ps,f.v.ls,(rsN f.v (dpM (txT s b)) f.v.body).1⟩=fnT f.v:=by
  rw[fnT_eq,fnT_eq]
  show lineT 0 _++(lnX (lcL _)++(lnX (lnB 1 _)++_))=_
  rw[k.t]
  rfl
 rw[this];exact r.l
end Go.Proofs.YtbiepiggmagfcaaGreatDoor
namespace Go.Proofs.YtbiepiggmagfcaaGreatDoor
open Go Go.Sy Go.RowKit
end Go.Proofs.YtbiepiggmagfcaaGreatDoor
namespace Go.Proofs.YtbiepiggmagfcaaGreatDoor
open Go Go.Sy Go.RowKit
inductive Gi where
 |c (x:List UInt8)
 |a (x t:List UInt8)
def celW:List UInt8:=[99,101,108,108]
def arrW:List UInt8:=[97,114,114,97,121]
def Gi.tk:Gi→List Kt
 | .c x=>[(0,celW),(0,x),(2,[59])]
 | .a x t=>[(0,arrW),(0,x),(2,[91]),(1,t),(2,[93]),(2,[59])]
def Gi.ok:Gi→Prop
 | .c x=>wordB x=false
 | .a x t=>wordB x=false∧smallB t∧0<numW t 0∧numW t 0≤1048576
def giK:List Gi→List Kt
 |[]=>[]
 |g::l=>g.tk++giK l
def giA (cs:List (List UInt8)) (as':List Ga):List Gi→Gb
 |[]=>⟨cs,as'⟩
 | .c x::l=>giA (cs++[x]) as' l
 | .a x t::l=>giA cs (as'++[⟨x,numW t 0⟩]) l
def giV (l:List Gi):Gb:=giA [] [] l
def Ga.cc (a:Ga):List C:=[.v (.string (bs a.s)),.v (.int .i64 a.n)]
def zSr:List C:=[.v (.string (bs []))]
def zGc:List C:=[.v (.string (bs [])),.v (.int .i64 0)]
theorem rowsGa:RowsD Ga.cc Ga.r 2:=by
 refine⟨fun a c hc=>?_,fun a c hc=>?_,fun a=>rfl,fun a=>rfl⟩
 ·simp only[Ga.cc,List.mem_cons,List.not_mem_nil,or_false]at hc;rcases hc with rfl|rfl<;>rfl
 ·simp only[Ga.cc,List.mem_cons,List.not_mem_nil,or_false]at hc;rcases hc with rfl|rfl<;>rfl
abbrev z2:List C:=[.v (.bool false),.v (.bool false)]
theorem Sfx.takY {p:Pr} {k:Int} {t:List UInt8} {ts:List Kt} (h:Sfx p ((k,t)::ts)) (hk:(k != 1)=true):Go.Proofs.YtbiepiggmagfcaaGreatDoor.isT t p=true∧takP t p=Go.Proofs.YtbiepiggmagfcaaGreatDoor.adv p:=by
 have e:Go.Proofs.YtbiepiggmagfcaaGreatDoor.isT t p=true:=by rw[h.isT,hk];simp
 exact⟨e,takP_t e⟩
theorem Sfx.takN {p:Pr} {k:Int} {t u:List UInt8} {ts:List Kt} (h:Sfx p ((k,t)::ts)) (hu:(t==u)=false):Go.Proofs.YtbiepiggmagfcaaGreatDoor.isT u p=false∧takP u p=p:=by
 have e:Go.Proofs.YtbiepiggmagfcaaGreatDoor.isT u p=false:=by rw[h.isT,hu];simp
 exact⟨e,takP_f e⟩
theorem Sfx.namSt {p:Pr} {t:List UInt8} {ts:List Kt} (h:Sfx p ((0,t)::ts)) (hw:wordB t=false):Go.Proofs.YtbiepiggmagfcaaGreatDoor.nameB p=true∧namS p=t:=by
 have e:Go.Proofs.YtbiepiggmagfcaaGreatDoor.nameB p=true:=by rw[h.nameB,hw];rfl
 exact⟨e,by unfold namS;rw[if_pos e];exact h.hd.2⟩
abbrev gSt (q:Pr) (cs:List (List UInt8)) (as':List Ga):St:=⟨[(2,true,.one (.p 2 0 0)),(8,true,.one (.p 28 0 0)),(9,true,.one (.p 9 0 0))],[(2,.vec 0 z2 [[cN,cN]]),(28,.vec 0 zPr [q.c]),(9,.vec 0 z2 [[.s 1000,.s 1001]]),(1000,.vec 0 zSr (cs.map sR1)),(1001,.vec 0 zGc (as'.map Ga.cc))]⟩
abbrev yc_rGlobals (L:List Gi) (s:List UInt8):Prop:=smallB s∧(∀g∈L,g.ok)∧L.length≤19∧∃T,rxT s=(T,0,0)∧T.map kt=giK L
abbrev yr_rGlobals (L:List Gi) (s:List UInt8):SV:=.tup [.inr (giV L).c,.inl (.v (.int .i64 0)),.inl (.v (.int .i64 0))]
noncomputable abbrev ya_rGlobals:ArgC ((List UInt8)×Unit):=(acS (cStr) ac0)
abbrev yq_rGlobals (L:List Gi):Prop:=CallsY Tryz.prog 12 ya_rGlobals (fun p:(List UInt8)×Unit=>yc_rGlobals L p.1) (fun p:(List UInt8)×Unit=>yr_rGlobals L p.1)
theorem yn_rGlobals (L:List Gi):∀p:(List UInt8)×Unit,((fun p:(List UInt8)×Unit=>yr_rGlobals L p.1) p).names=[]:=by intro p;rfl
noncomputable def yg_rGlobals {X:Ctx} {w0:World} (L:List Gi) (h:yq_rGlobals L):Sy.Spec Tryz.prog X w0:=specD 12 Tryz.call12 ya_rGlobals (fun p:(List UInt8)×Unit=>yc_rGlobals L p.1) (fun p:(List UInt8)×Unit=>yr_rGlobals L p.1) (yn_rGlobals L) h
attribute [local go_sem] Pr.c zTk
set_option maxRecDepth 20000 in set_option maxHeartbeats 16000000 in
theorem y_rGlobals (L:List Gi):yq_rGlobals L:=by
 rintro ⟨s,_u⟩ w fz xs hc hfz hl hx
 refine calls_toL Tryz.func12 rfl w fz [ypTok,yp_take,yp_want,yp_named,yp_fail,yp_name,yp_number] [] ya_rGlobals (fun p:(List UInt8)×Unit=>yr_rGlobals L p.1) _ xs hfz hl hx (Nat.le_of_ble_eq_true rfl) ?_
 clear hx hl hfz xs
 simp only[Tryz.f12]
 obtain⟨hs,hL,hn,T,hT,hK⟩:=hc
 have hok:=p0_ok s (s.length:Int)
 rw[hT]at hok
 simp only[↓eB,seval,go_sem,ypTok,mPr_e,mPr_z,mPr_d,tk_at,Tok.r,cPt_d,ptR,rPr_d,mPr_d',rPr_d',pr_eta,hT]
 try simp only[impB,impN]
 repeat' (first|exact ck|with_reducible apply And.intro)
 all_goals try first|exact hs|decide|omega
 generalize (s.length:Int)=N at hok ⊢
 have hS:Sfx (p0 T N) (giK L):=⟨hok,rfl,hK⟩
 refine loop_ok (Y:=Pr×List (List UInt8)×List Ga×List Gi) (fun y=>Sfx y.1 (giK y.2.2.2)∧giA y.2.1 y.2.2.1 y.2.2.2=giV L∧(∀g∈y.2.2.2,g.ok)∧y.2.1.length+y.2.2.1.length+y.2.2.2.length≤19)
  (fun y=>gSt y.1 y.2.1 y.2.2.1) (fun y=>y.2.2.2.length) (p0 T N,[],[],L) ⟨hS,rfl,hL,by simpa using hn⟩ ?_ ?_
 ·refine to_with [.nilr 9 0 0 1000 zSr,.nilr 9 0 1 1001 zGc] ?_;simp only[↓eB,seval,go_sem,zSr,zGc,p0]
 ·rintro ⟨q,cs,as',M⟩ ⟨g1,g2,g3,g4⟩
  refine vc_ok [yp_take,yp_want,yp_named,yp_fail,yp_name,yp_number] [] _ _ _ ?_
  dsimp only at g1 g2 g3 g4
  have hlen:IntKind.i64.wrap ((cs.length:Int)+(as'.length:Int))=((cs.length+as'.length:Nat):Int):=by rw[wrap_i64 (by omega) (by omega)];rfl
  have hlen2:decide ((20:Int)≤((cs.length+as'.length:Nat):Int))=false:=by simp;omega
  have hE:(q.e==0)=true:=by rw[g1.e];rfl
  have hE2:(q.e != 0)=false:=by rw[g1.e];rfl
  cases M with
  |nil=>
   have g1:Sfx q []:=g1
   have h1:(q.e==0&&decide (q.i<(q.l.length:Int)))=false:=by rw[hE,g1.nil];simp
   have hr:giV L=⟨cs,as'⟩:=g2.symm
   simp only[↓eB,seval,go_sem,yp_named,yr_named,yp_fail,yp_want,yp_name,yp_take,yp_number,yr_number,mPr_e,mPr_z,mPr_d,tk_at,Tok.r,cPt_d,ptR,rPr_d,mPr_d',rPr_d',pr_eta,h1,hE2]
   try simp only[impB,impN]
   repeat' first|exact ck|with_reducible apply And.intro|intro _
   all_goals first|exact hE|(rename_i h;first|exact oI h|exact nah h)|(rename_i _ h _ g;exact sL h g)|decide|omega|(refine ret_with [.fz 1000,.fz 1001] ?_;simp only[↓eB,seval,go_sem,bne,yr_rGlobals,hr,Gb.c,rowsS1.ds,rowsS1.fz,rowsGa.ds,rowsGa.fz,zSr,zGc,zGa,zSD])
  |cons m M=>
  cases m with
  |c x=>
   have hw:wordB x=false:=g3 _ (List.mem_cons_self ..)
   have g1:Sfx q ((0,celW)::(0,x)::(2,[59])::giK M):=g1
   have hlt:=g1.lt
   have h1:(q.e==0&&decide (q.i<(q.l.length:Int)))=true:=by rw[hE];simp[hlt]
   obtain⟨i1,e1⟩:=g1.takY (by decide)
   have a1:=g1.adv
   obtain⟨i2,e2⟩:=a1.namSt hw
   have e3:=a1.nam hw
   have a2:=a1.adv
   have e4:=a2.wan (by decide)
   have a3:=a2.adv
   have hok1:=g1.ok
   have hok2:=a1.ok
   have hok3:=a2.ok
   simp only[celW]at i1 e1
   simp only[↓eB,seval,go_sem,yp_named,yr_named,yp_fail,yp_want,yp_name,yp_take,yp_number,yr_number,mPr_e,mPr_z,mPr_d,tk_at,Tok.r,cPt_d,ptR,rPr_d,mPr_d',rPr_d',pr_eta,h1,i1,e1,i2,e2,e3,e4,hlen,hlen2]
   have hst:rowsStor [[C.v (Value.string (bs x))]]:=by
    intro r hr c hc
    rw[List.mem_singleton.1 hr]at hc
    rw[List.mem_singleton.1 hc];rfl
   try simp only[impB,impN]
   repeat' (first|exact ck|with_reducible apply And.intro)
   all_goals try first|exact hok1|exact hok2|exact hok3|exact hok2.i|exact hst|decide|omega
   refine⟨(adv (adv (adv q)),cs++[x],as',M),⟨a3,g2,fun g hg=>g3 g (List.mem_cons_of_mem _ hg),by simp only[List.length_append,List.length_cons,List.length_nil]at g4 ⊢;omega⟩,Nat.lt_succ_self _,to_trans (t:=⟨[(2,true,.one (.p 2 0 0)),(8,true,.one (.p 28 0 0)),(9,true,.one (.p 9 0 0))],[(2,.vec 0 z2 [[cN,cN]]),(28,.vec 0 zPr [(adv (adv (adv q))).c]),(9,.vec 0 z2 [[.s 73,.s 1001]]),(73,.vec 0 zSr ((cs++[x]).map sR1)),(1001,.vec 0 zGc (as'.map Ga.cc))]⟩) ?_ ?_⟩
   ·refine to_with [] ?_;simp only[↓eB,seval,go_sem,zSr,zGc,sR1,rowsS1.fn,rowsGa.fn,List.map_append,List.flatMap_append]
   ·refine to_with [.mv 73 1000] ?_;simp only[↓eB,seval,go_sem,zSr,zGc,rowsS1.mv,rowsS1.fn,rowsGa.mv,rowsGa.fn]
  |a x t=>
   obtain⟨hw,ht,hn0,hn1⟩:wordB x=false∧smallB t∧0<numW t 0∧numW t 0≤1048576:=g3 _ (List.mem_cons_self ..)
   have g1:Sfx q ((0,arrW)::(0,x)::(2,[91])::(1,t)::(2,[93])::(2,[59])::giK M):=g1
   have hlt:=g1.lt
   have h1:(q.e==0&&decide (q.i<(q.l.length:Int)))=true:=by rw[hE];simp[hlt]
   obtain⟨i1,e1⟩:=g1.takN (u:=celW) (by decide)
   have e1':=g1.wan (by decide)
   have a1:=g1.adv
   obtain⟨i2,e2⟩:=a1.namSt hw
   have e3:=a1.nam hw
   have a2:=a1.adv
   have e4:=a2.wan (by decide)
   have a3:=a2.adv
   have hok1:=g1.ok
   have hok2:=a1.ok
   have hok3:=a2.ok
   obtain⟨q3,hq3⟩:∃q3,adv (adv (adv q))=q3:=⟨_,rfl⟩
   rw[hq3]at e4 a3
   have h3:(q3.e==0&&decide (q3.i<(q3.l.length:Int)))=true:=by rw[a3.e];simp[a3.lt]
   have h3a:=a3.ok.i.1
   have h3b:=a3.lt
   have k3:(q3.l.getD q3.i.toNat tk0).k=1:=a3.hd.1
   have t3:(q3.l.getD q3.i.toNat tk0).t=t:=a3.hd.2
   have a4:=a3.adv
   have e5:wanP [93] ⟨q3.l,IntKind.i64.wrap (q3.i+1),q3.en,q3.e,q3.at',q3.deep,q3.n⟩=adv (adv q3):=a4.wan (by decide)
   have a5:=a4.adv
   have e6:=a5.wan (by decide)
   have a6:=a5.adv
   have hok4:=a3.ok
   have hok5:okP ⟨q3.l,IntKind.i64.wrap (q3.i+1),q3.en,q3.e,q3.at',q3.deep,q3.n⟩:=a4.ok
   have hok6:=a5.ok
   obtain⟨q5,hq5⟩:∃q5,adv (adv q3)=q5:=⟨_,rfl⟩
   rw[hq5]at e5 e6 hok6 a6
   have n1:decide ((1048576:Int)<numW t 0)=false:=by simp;omega
   have n2:(numW t 0==0)=false:=by simp;omega
   simp only[celW]at i1 e1
   simp only[arrW]at e1'
   have hst:rowsStor [[C.v (Value.string (bs x)),C.v (Value.int .i64 (numW t 0))]]:=by
    intro r hr c hc
    rw[List.mem_singleton.1 hr]at hc
    simp only[List.mem_cons,List.not_mem_nil,or_false]at hc
    rcases hc with rfl|rfl<;>rfl
   simp only[↓eB,seval,go_sem,yp_named,yr_named,yp_fail,yp_want,yp_name,yp_take,yp_number,yr_number,mPr_e,mPr_z,mPr_d,tk_at,Tok.r,cPt_d,ptR,rPr_d,mPr_d',rPr_d',pr_eta,h1,i1,e1,e1',i2,e2,e3,e4,e5,e6,h3,k3,t3,n1,n2,hlen,hlen2]
   try simp only[impB,impN]
   repeat' (first|exact ck|with_reducible apply And.intro)
   all_goals try first|exact hok1|exact hok2|exact hok3|exact hok4|exact hok5|exact hok6|exact hok2.i|exact hst|exact ht|exact h3a|exact h3b|decide|omega
   refine⟨(adv q5,cs,as'++[⟨x,numW t 0⟩],M),⟨a6,g2,fun g hg=>g3 g (List.mem_cons_of_mem _ hg),by simp only[List.length_append,List.length_cons,List.length_nil]at g4 ⊢;omega⟩,Nat.lt_succ_self _,to_trans (t:=⟨[(2,true,.one (.p 2 0 0)),(8,true,.one (.p 28 0 0)),(9,true,.one (.p 9 0 0))],[(2,.vec 0 z2 [[cN,cN]]),(28,.vec 0 zPr [(adv q5).c]),(9,.vec 0 z2 [[.s 1000,.s 145]]),(1000,.vec 0 zSr (cs.map sR1)),(145,.vec 0 zGc ((as'++[(⟨x,numW t 0⟩:Ga)]).map Ga.cc))]⟩) ?_ ?_⟩
   ·refine to_with [] ?_;simp only[↓eB,seval,go_sem,zSr,zGc,Ga.cc,rowsS1.fn,rowsGa.fn,List.map_append,List.flatMap_append]
   ·refine to_with [.mv 145 1001] ?_;simp only[↓eB,seval,go_sem,zSr,zGc,rowsS1.mv,rowsS1.fn,rowsGa.mv,rowsGa.fn]
end Go.Proofs.YtbiepiggmagfcaaGreatDoor
