/- The functions that the laws ask for: of known kinds, with their parts, and not too long as text. No conditions but those in each statement. -/
import Derived.Test.YtbiepiggmagfcaaGreatDoorRq2
import Derived.Test.YtbiepiggmagfcaaGreatDoorMc4
import Derived.Test.YtbiepiggmagfcaaGreatDoorPg1
set_option linter.unusedVariables false
set_option linter.unusedSimpArgs false
namespace Go.Proofs.YtbiepiggmagfcaaGreatDoor
open Go Go.Sy Go.RowKit
theorem wT_le {ts:List Kt} (h:∀t∈ts,t.2.length≤4096):wT ts≤ts.length*4296:=by
 induction ts with
 |nil=>exact Nat.zero_le _
 |cons t l ih=>
  have:=ih fun x hx=>h x (List.mem_cons_of_mem _ hx)
  have:=h t (by simp)
  rw[wT_cons,List.length_cons,Nat.succ_mul];omega
structure RqF (f:Fn):Prop where
 p:okPr 5000 8 f.body
 r:okRg 8 f.body
 pl:f.ps.length≤5000
 ll:f.ls.length≤5000
 l:(fnT f).length≤100000000
theorem lens_le {l:List (List UInt8)} {c:Nat} (h:∀x∈l,x.length≤c):Lib.lens l≤c*l.length:=by
 induction l with
 |nil=>exact Nat.zero_le _
 |cons a l ih=>
  have:=ih fun x hx=>h x (List.mem_cons_of_mem _ hx)
  have:=h a (by simp)
  simp only[Lib.lens,List.map_cons,List.sum_cons,List.length_cons,Nat.mul_succ]at *;omega
theorem lc_le {l:List Vr} (h:∀v∈l,v.s.length≤1):(lnX (lcL l)).length≤8*l.length:=by
 induction l with
 |nil=>exact Nat.zero_le _
 |cons a l ih=>
  have:=ih fun x hx=>h x (List.mem_cons_of_mem _ hx)
  have:=h a (by simp)
  have e:(locT a).length=a.s.length+6:=by
   obtain⟨s,p⟩:=a
   cases p<;>simp[locT]<;>omega
  show (lnX (⟨locT a,-1⟩::lcL l)).length≤_
  rw[lnX_cons,List.length_append,List.length_append,e,List.length_cons]
  simp only[List.length_cons,List.length_nil];omega
theorem cf_rq {t:List UInt8} {f:Cf} (h:mkQ t f) (h1:f.tk.length≤4096) (h2:∀t∈f.tk,t.2.length≤4096):RqF f.v:=by
 have h3:(tkB f.body).length≤f.tk.length∧∀t∈tkB f.body,t∈f.tk:=by
  unfold Cf.tk
  refine⟨by simp only[List.length_cons,List.length_append];omega,fun t ht=>by simp[ht]⟩
 have hd:=h.d
 have a:=rq_B f.body 5000 8 1 0 h.ok.w (by omega) (by omega) (by omega) (by omega)
 have w:=wT_le (ts:=tkB f.body) fun t ht=>h2 t (h3.2 t ht)
 have w2:(tkB f.body).length*4296≤4096*4296:=Nat.mul_le_mul_right _ (by omega)
 have al:=a.l
 have hp:=h.ok.pl
 have hl:=h.ok.ll
 refine⟨a.p,a.r,by show f.ps.length≤_;omega,by show f.ls.length≤_;omega,?_⟩
 rw[fnT_eq]
 have e1:=lc_le h.vl
 have e2:=jn_len (f.ps.map vrT)
 have e3:Lib.lens (f.ps.map vrT)≤2*(f.ps.map vrT).length:=lens_le fun x hx=>by
  obtain⟨v,hv,rfl⟩:=List.mem_map.1 hx
  have:=h.pl v hv
  unfold vrT
  split
  ·simp only[List.length_append,List.length_cons,List.length_nil];omega
  ·omega
 rw[List.length_map]at e2 e3
 have e4:=h.nl
 have e5:=lT_len 0 (fnH f.v)
 have e6:(fnH f.v).flatten.length=3+(f.name.length+(1+((jnT (f.ps.map vrT)).length+3))):=by
  show [_,f.name,_,jnT (f.ps.map vrT),_].flatten.length=_
  simp only[List.flatten_cons,List.flatten_nil,List.length_append,List.length_cons,List.length_nil]
 have e7:=lT_len 0 [([125]:List UInt8)]
 show (lineT 0 (fnH f.v)++(lnX (lcL f.ls)++(lnX (lnB 1 (vB 0 f.body))++lineT 0 [[125]]))).length≤_
 simp only[List.length_append,List.flatten_cons,List.flatten_nil,List.length_cons,List.length_nil]at e5 e7 ⊢
 omega
structure Kp (n:Nat) (s s1:Sm):Prop where
 p:PrS n s1
 r:RgS s1
 h:(hdL s1).flatten=(hdL s).flatten
 no:s1.no=s.no
 k:(s1.k=s.k∧s1.th=s.th∧s1.el=s.el)∨(s.k=0∧s1.k=2∧s1.th=[]∧s1.el=[])
theorem Kp.refl {n:Nat} {s:Sm} (p:PrS n s) (r:RgS s):Kp n s s:=⟨p,r,rfl,rfl,.inl ⟨rfl,rfl,rfl⟩⟩
theorem ptr_nm {f:Fn} {e:Ex} (h:ptrF f e=true):exT e=e.nm∧∃n s a b,e= .mk 1 n s a b:=by
 cases e with
 |nil=>cases h
 |mk k n s a b=>
  simp only[ptrF,Bool.and_eq_true,beq_iff_eq]at h
  obtain⟨rfl,_⟩:=h
  exact⟨ex1 n s a b,n,s,a,b,rfl⟩
theorem ra_x (f:Fn) (a:Ar):argX (raS f a).1=argX a:=by
 unfold raS
 split
 ·rfl
 split
 ·rename_i h1 h2
  have h1:a.p=false:=by simpa using h1
  show a.e.nm=_
  unfold argX
  rw[if_neg (by rw[h1];decide),(ptr_nm h2).1]
 ·rfl
theorem rs_kp {f:Fn} {n:Nat} {s:Sm} (hp:PrS n s) (hr:RgS s) (hn:0<n) (h:(rsS f s).2=true):Kp n s (rsS f s).1:=by
 obtain⟨k,x,y,e,g,cd,ar,th,el,no⟩:=s
 have re:=Kp.refl hp hr
 by_cases k0:(k==0)=true
 ·have hk:k=0:=eq_of_beq k0
  subst hk
  by_cases c1:(kinF f x==2)=true
  ·by_cases c2:ptrF f e=true
   ·have e0:(rsS f (.mk 0 x y e g cd ar th el no)).1= .mk 2 x e.nm .nil .nil .nil [] [] [] no:=by
     simp only[rsS];rw[if_pos k0,if_pos c1,if_pos c2]
    rw[e0]
    refine⟨⟨⟨hn,hn,hn,fun a h=>(by cases h),Nat.zero_le _⟩,by show (0:Int)≤2;decide,by show (2:Int)≤12;decide,trivial,trivial,trivial,fun a h=>(by cases h)⟩,?_,?_,rfl,.inr ⟨rfl,rfl,rfl,rfl⟩⟩
    ·refine⟨fun h=>?_,fun h=>?_,fun h=>?_,fun h=>?_⟩<;>simp only[Sm.k]at h<;>omega
    ·rw[hdk2,hdk0,(ptr_nm c2).1]
   ·simp only[rsS]at h
    rw[if_pos k0,if_pos c1,if_neg c2]at h
    cases h
  ·have e0:(rsS f (.mk 0 x y e g cd ar th el no)).1= .mk 0 x y e g cd ar th el no:=by
    simp only[rsS];rw[if_pos k0,if_neg c1]
   rw[e0];exact re
 ·by_cases k8:(k==8)=true
  ·have hk:k=8:=eq_of_beq k8
   subst hk
   have e0:(rsS f (.mk 8 x y e g cd ar th el no)).1= .mk 8 x y e g cd (raL f ar) th el no:=rfl
   rw[e0]
   obtain⟨⟨o1,o2,o3,o4,o5⟩,p1,p2,p3,p4,p5,p6⟩:=hp
   refine⟨⟨⟨o1,o2,o3,fun a ha=>?_,by show (raL f ar).length≤_;unfold raL;rw[List.length_map];exact o5⟩,p1,p2,p3,p4,p5,fun a ha=>?_⟩,⟨hr.e,hr.f,hr.c,fun hk a ha hp=>?_⟩,?_,rfl,.inl ⟨rfl,rfl,rfl⟩⟩
   ·obtain⟨b,hb,rfl⟩:=List.mem_map.1 (show a∈ar.map (fun a=>(raS f a).1) from ha)
    unfold raS
    split
    ·exact o4 b hb
    split
    ·exact hn
    ·exact o4 b hb
   ·obtain⟨b,hb,rfl⟩:=List.mem_map.1 (show a∈ar.map (fun a=>(raS f a).1) from ha)
    unfold raS
    split
    ·exact p6 b hb
    split
    ·trivial
    ·exact p6 b hb
   ·obtain⟨b,hb,rfl⟩:=List.mem_map.1 (show a∈ar.map (fun a=>(raS f a).1) from ha)
    unfold raS at hp ⊢
    split at hp
    ·rename_i h1;rw[if_pos h1];exact hr.a rfl b hb hp
    split at hp
    ·cases hp
    ·rename_i h1 h2
     rw[if_neg h1,if_neg h2];exact hr.a rfl b hb hp
   ·rw[hdk8,hdk8]
    have:(raL f ar).map argX=ar.map argX:=by
     unfold raL;rw[List.map_map];exact List.map_congr_left fun a _=>ra_x f a
    rw[this]
  ·have e0:(rsS f (.mk k x y e g cd ar th el no)).1= .mk k x y e g cd ar th el no:=by
    simp only[rsS]
    rw[if_neg k0]
    repeat' (first|rfl|(rw[if_neg k8])|split)
   rw[e0];exact re
theorem wi_all (s:Sm) (a b:List Sm):hdL (s.wi a b)=hdL s∧(s.wi a b).no=s.no∧(s.wi a b).k=s.k∧(s.wi a b).th=a∧(s.wi a b).el=b:=by
 cases s;exact⟨rfl,rfl,rfl,rfl,rfl⟩
theorem wi_p {n:Nat} {s:Sm} (h:PrS n s) (a b:List Sm):PrS n (s.wi a b):=by
 cases s;exact⟨⟨h.ok.e,h.ok.f,h.ok.c,h.ok.a,h.ok.l⟩,h.k0,h.k1,h.e,h.f,h.c,h.a⟩
theorem wi_r {s:Sm} (h:RgS s) (a b:List Sm):RgS (s.wi a b):=by
 cases s;exact⟨h.e,h.f,h.c,h.a⟩
structure Kpl (n m:Nat) (l l':List Sm):Prop where
 p:okPr n m l'
 r:okRg m l'
 t:∀d,lnB d l'=lnB d l
def okNo:Nat→List Sm→Prop
 |0,_=>True
 |m+1,l=>∀s∈l,0≤s.no∧okNo m s.th∧okNo m s.el
theorem okNo_nil (m:Nat):okNo m []:=by
 cases m with
 |zero=>trivial
 |succ m=>intro s hs;cases hs
mutual
theorem no_S:∀(s:Cs) (n:Int) (m:Nat),0≤n→0≤(s.v n).no∧okNo m (s.v n).th∧okNo m (s.v n).el
 | .asg x e,n,m,h=>⟨h,okNo_nil _,okNo_nil _⟩
 | .adr x y,n,m,h=>⟨h,okNo_nil _,okNo_nil _⟩
 | .nul x,n,m,h=>⟨h,okNo_nil _,okNo_nil _⟩
 | .lod x y,n,m,h=>⟨h,okNo_nil _,okNo_nil _⟩
 | .sto x e,n,m,h=>⟨h,okNo_nil _,okNo_nil _⟩
 | .idx x y e,n,m,h=>⟨h,okNo_nil _,okNo_nil _⟩
 | .put y e f,n,m,h=>⟨h,okNo_nil _,okNo_nil _⟩
 | .cal none y l,n,m,h=>⟨h,okNo_nil _,okNo_nil _⟩
 | .cal (some x) y l,n,m,h=>⟨h,okNo_nil _,okNo_nil _⟩
 | .ret e,n,m,h=>⟨h,okNo_nil _,okNo_nil _⟩
 | .ass c,n,m,h=>⟨h,okNo_nil _,okNo_nil _⟩
 | .whi c b,n,m,h=>⟨h,no_B b (n+1) m (by omega),okNo_nil _⟩
 | .ite c b none,n,m,h=>⟨h,no_B b (n+1) m (by omega),okNo_nil _⟩
 | .ite c b (some e),n,m,h=>⟨h,no_B b (n+1) m (by omega),no_B e (n+1+ctB b) m (by omega)⟩
theorem no_B:∀(l:List Cs) (n:Int) (m:Nat),0≤n→okNo m (vB n l)
 |[],n,m,h=>by rw[vB];exact okNo_nil _
 |s::l,n,m,h=>by
  rw[vB]
  cases m with
  |zero=>trivial
  |succ m=>
   intro x hx
   rcases List.mem_cons.1 hx with rfl|hx
   ·exact no_S s n m h
   ·exact no_B l (n+s.ct) (m+1) (by omega) x hx
end
structure Pn (n m n' m':Nat) (s:Sm):Prop where
 p:PrS n s
 r:RgS s
 no:0≤s.no
 pt:okPr n m s.th
 pe:okPr n m s.el
 rt:okRg m s.th
 re:okRg m s.el
 nt:okNo m s.th
 ne:okNo m s.el
 bt:okB n' m' s.th
 be:okB n' m' s.el
theorem rsW_kp {f:Fn} {n m n' m':Nat} (hn:0<n) {h:List Sm→List Sm×Int} (hh:∀l,okPr n m l→okRg m l→okNo m l→okB n' m' l→¬0≤(h l).2→Kpl n m l (h l).1):∀(l out l0:List Sm),(∀s∈l,Pn n m n' m' s)→
  (∀s∈out,(PrS n s∧okPr n m s.th∧okPr n m s.el)∧(RgS s∧okRg m s.th∧okRg m s.el))→(∀d,lnB d out=lnB d l0)→¬0≤(rsW h f out l).2→
  (∀s∈(rsW h f out l).1,(PrS n s∧okPr n m s.th∧okPr n m s.el)∧(RgS s∧okRg m s.th∧okRg m s.el))∧(∀d,lnB d (rsW h f out l).1=lnB d (l0++l))∧(rsW h f out l).1.length=out.length+l.length
 |[],out,l0,_,ho,ht,_=>⟨ho,fun d=>by rw[List.append_nil];exact ht d,rfl⟩
 |s::r,out,l0,hl,ho,ht,hx=>by
  have hs:=hl s (by simp)
  simp only[rsW]at hx ⊢
  by_cases c1:(rsS f s).2=true
  ·rw[if_pos c1]at hx ⊢
   by_cases c2:0≤(h (rsS f s).1.th).2
   ·rw[if_pos c2]at hx;exact absurd c2 hx
   rw[if_neg c2]at hx ⊢
   by_cases c3:0≤(h (rsS f s).1.el).2
   ·rw[if_pos c3]at hx;exact absurd c3 hx
   rw[if_neg c3]at hx ⊢
   have kp:=rs_kp hs.p hs.r hn c1
   have hr0:okRg m []:=by
    cases m with
    |zero=>exact hs.pt.elim
    |succ m=>intro s hs;cases hs
   have k1:Kpl n m (rsS f s).1.th (h (rsS f s).1.th).1:=by
    rcases kp.k with⟨_,e1,_⟩|⟨_,_,e1,_⟩
    ·exact hh _ (by rw[e1];exact hs.pt) (by rw[e1];exact hs.rt) (by rw[e1];exact hs.nt) (by rw[e1];exact hs.bt) c2
    ·exact hh _ (by rw[e1];exact okPr_nil hs.pt) (by rw[e1];exact hr0) (by rw[e1];exact okNo_nil _) (by rw[e1];exact okB_nil hs.bt) c2
   have k2:Kpl n m (rsS f s).1.el (h (rsS f s).1.el).1:=by
    rcases kp.k with⟨_,_,e1⟩|⟨_,_,_,e1⟩
    ·exact hh _ (by rw[e1];exact hs.pe) (by rw[e1];exact hs.re) (by rw[e1];exact hs.ne) (by rw[e1];exact hs.be) c3
    ·exact hh _ (by rw[e1];exact okPr_nil hs.pt) (by rw[e1];exact hr0) (by rw[e1];exact okNo_nil _) (by rw[e1];exact okB_nil hs.bt) c3
   obtain⟨w1,w2,w3,w4,w5⟩:=wi_all (rsS f s).1 (h (rsS f s).1.th).1 (h (rsS f s).1.el).1
   have hE:(h (rsS f s).1.el).1.isEmpty=(rsS f s).1.el.isEmpty:=by
    have:=k2.t 0
    have key:∀l:List Sm,l.isEmpty=(lnB 0 l).isEmpty:=by
     intro l
     cases l with
     |nil=>rfl
     |cons a l=>rw[lnB_cons,lnS_eq];rfl
    rw[key,this,← key]
   have hS:∀d,lnS d ((rsS f s).1.wi (h (rsS f s).1.th).1 (h (rsS f s).1.el).1)=lnS d s:=by
    intro d
    rw[lnS_eq,lnS_eq d s,w1,w2,w3,w4,w5,kp.h,kp.no,k1.t,k2.t,hE]
    rcases kp.k with⟨e0,e1,e2⟩|⟨e0,e3,e1,e2⟩
    ·rw[e0,e1,e2]
    ·simp only[e0,e3,Int.reduceBEq,Bool.false_eq_true,if_false]
   have:=rsW_kp hn hh r (out++[(rsS f s).1.wi (h (rsS f s).1.th).1 (h (rsS f s).1.el).1]) (l0++[s]) (fun s' hs'=>hl s' (List.mem_cons_of_mem _ hs')) (fun s' hs'=>by
    rcases List.mem_append.1 hs' with hs'|hs'
    ·exact ho s' hs'
    ·rw[List.mem_singleton.1 hs',w4,w5]
     exact⟨⟨wi_p kp.p _ _,k1.p,k2.p⟩,wi_r kp.r _ _,k1.r,k2.r⟩) (fun d=>by rw[lnB_snoc,lnB_snoc,ht d,hS d]) hx
   refine⟨this.1,fun d=>by rw[this.2.1 d,List.append_assoc];rfl,by rw[this.2.2];simp only[List.length_append,List.length_cons,List.length_nil];omega⟩
  ·rw[if_neg c1]at hx
   exact absurd hs.no hx
theorem rsN_kp {f:Fn} {n n':Nat} (hn:0<n):∀(m' m:Nat) (l:List Sm),okPr n m l→okRg m l→okNo m l→okB n' m' l→¬0≤(rsN f m' l).2→Kpl n m l (rsN f m' l).1
 |0,_,_,_,_,_,h,_=>h.elim
 |_+1,0,_,h,_,_,_,_=>h.elim
 |m'+1,m+1,l,hp,hr,ho,hb,hx=>by
  have:=rsW_kp (n:=n) (m:=m) (n':=n') (m':=m') hn (rsN_kp (f:=f) hn m' m) l [] [] (fun s hs=>by
   obtain⟨a1,a2,a3⟩:=hp.2 s hs
   obtain⟨b1,b2,b3⟩:=hr s hs
   obtain⟨c1,c2,c3⟩:=ho s hs
   obtain⟨d1,d2,d3⟩:=hb.2 s hs
   exact⟨a1,b1,c1,a2,a3,b2,b3,c2,c3,d2,d3⟩) (fun s hs=>by cases hs) (fun d=>rfl) hx
  refine⟨⟨?_,fun s hs=>(this.1 s hs).1⟩,fun s hs=>(this.1 s hs).2,fun d=>by rw[show rsN f (m'+1) l=rsW (rsN f m') f [] l from rfl,this.2.1 d];rfl⟩
  rw[show rsN f (m'+1) l=rsW (rsN f m') f [] l from rfl,this.2.2]
  have:=hp.1
  simp only[List.length_nil];omega
theorem fn0_rq:RqF fn0:=⟨⟨Nat.zero_le _,(fun s hs=>by cases hs)⟩,(fun s hs=>by cases hs),Nat.zero_le _,Nat.zero_le _,by decide⟩
theorem fnA_rq {s:Int} {b:List Int} (hs:0≤s) (hb:okY b):RqF (fnA s b):=by
 obtain⟨f,q,e,_,t1,t2⟩:=mk_fun hs hb
 have r:=cf_rq q t1 t2
 have hd:=dp_ok (txT s b)
 rw[e]at hd
 unfold fnA fnF pgF
 dsimp only
 rw[e]
 rw[if_neg (show ¬((0:Int) != 0)=true by decide)]
 by_cases c:((resF f.v (nmS s) (dpM (txT s b))).2.2 != 0)=true
 ·rw[if_pos c];exact fn0_rq
 rw[if_neg c]
 show RqF (resF f.v (nmS s) (dpM (txT s b))).1
 unfold resF at c ⊢
 by_cases c1:(f.v.name != nmS s||f.v.name==gloB)=true
 ·rw[if_pos c1];exact fn0_rq
 rw[if_neg c1]at c ⊢
 by_cases c2:dupR [] (f.v.ps++f.v.ls)=true
 ·rw[if_pos c2];exact fn0_rq
 rw[if_neg c2]at c ⊢
 by_cases c3:0≤(rsN f.v (dpM (txT s b)) f.v.body).2
 ·rw[if_pos c3];exact fn0_rq
 rw[if_neg c3]at c ⊢
 have k:=rsN_kp (n:=5000) (by decide) _ 8 _ r.p r.r (no_B f.body 0 8 (by omega)) hd c3
 refine⟨k.p,k.r,r.pl,r.ll,?_⟩
 have:fnT ⟨f.v.name,f.v.ps,f.v.ls,(rsN f.v (dpM (txT s b)) f.v.body).1⟩=fnT f.v:=by
  rw[fnT_eq,fnT_eq]
  show lineT 0 _++(lnX (lcL _)++(lnX (lnB 1 _)++_))=_
  rw[k.t]
  rfl
 rw[this];exact r.l
end Go.Proofs.YtbiepiggmagfcaaGreatDoor
