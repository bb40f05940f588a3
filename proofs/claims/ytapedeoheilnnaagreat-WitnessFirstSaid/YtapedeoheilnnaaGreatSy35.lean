/- Calls in linked memory: the contract in its caller's walk. No conditions but those in each statement. -/
import Derived.Test.YtapedeoheilnnaaGreatSy34
set_option linter.all false
open Option (getD_some map_none map_some)
open List (mem_append mem_of_getElem? getElem?_eq_getElem)
namespace Go.Sy
open Go Go.RowKit
theorem AAk{P:Prop}(h:P:=by
 cases hp2:pos ks (xt t (i-ks.length)) with
 |none=>rfl
 |some j=>exact absurd (mem_of_getElem? (FG hp2)) (htk _ hle)):P:=h
variable{H H':Hp}{v:SV}{t:Nat}{fz:Nat->Prop}{lab:Lab}{I:Nm}{ks:List Nat}{A:Type}{h:Bf}{x:Value}{X:Ctx}{w0:World}
theorem A4j{lab':Lab}{I':Nm}{f:Nat->Nat}{n:Nat}(hv:A0F n v)(hI:∀i,i<n->I' i=I (f i))(r:Ap h fz lab I H (rnV f v) x):Ap h fz lab' I' H' v x:=by
 have scn:∀{c x},okL n c->SC h fz lab I H (rnC f c) x->SC h fz lab' I' H' c x:=by
  intro c x hc r
  rcases hc with h1|⟨k,rfl,hk⟩|⟨k,i,j,rfl,hk⟩|⟨g,caps,rfl,hk⟩
  .rw[F8 h1]at r
   cases c
   case any=>exact⟨rfl,DT (λb hb=>⟨hb,rfl⟩) rfl r.2 (λk hk=>by cases hk)⟩
   case v=>exact⟨rfl,DT (λb hb=>⟨hb,rfl⟩) rfl r.2 (λk hk=>by cases hk)⟩
   case p=>cases h1
   case s=>cases h1
   case d=>exact⟨rfl,DT (λb hb=>⟨hb,rfl⟩) rfl r.2 (λk hk=>by cases hk)⟩
   case df=>exact⟨rfl,DT (λb hb=>⟨hb,rfl⟩) rfl r.2 (λk hk=>by cases hk)⟩
   case dp=>exact⟨rfl,DT (λb hb=>⟨hb,rfl⟩) rfl r.2 (λk hk=>by cases hk)⟩
   case ov=>exact absurd r.1 (by simp[C.flat])
   case fn=>exact⟨rfl,DT (λb hb=>⟨hb,rfl⟩) rfl r.2 (λk hk=>by rw[h1]at hk;cases hk)⟩
   case vw=>cases h1
   case q=>cases h1
  .exact ph (H0:=H) (H':=H') (hI k hk) r
  .exact pg (H0:=H) (H':=H') (hI k hk) r
  have h2:=r.2
  refine⟨rfl,?_⟩
  cases h2 with|fn _ _ _ vals hv h1=>exact .fn _ _ _ _ (by rw[<- hv];exact(aX hk λi hi=>(hI i hi).symm).symm) h1
 cases v with
 |one c=>exact scn hv r
 |agg l=>
  obtain⟨arr,e1,e2,e3⟩:=r
  refine⟨arr,e1,by simpa using e2,λj c hj=>?_⟩
  obtain⟨y,y1,y2⟩:=e3 j (rnC f c) (by simp[hj])
  exact⟨y,y1,scn (hv c (mem_of_getElem? hj)) y2⟩
 |tup l=>exact hv.elim
def vrQ(H:Hp)(ks:List Nat)(t i:Nat):Nat:=match H (nmX ks t i) with
 |some (.vec u _ _)=>u+1
 |_=>0
def EE(H:Hp)(ks:List Nat)(t:Nat):C->C
 | .q k _ p s m o=>.q (nmX ks t k) (vrQ H ks t k) p s m o
 |c=>GF (nmX ks t) c
def E5(H:Hp)(ks:List Nat)(t:Nat):SV->SV
 | .one c=>.one (EE H ks t c)
 |v=>Pi (nmX ks t) v
def Xi(ma:List (Option ML)):SV->Prop
 | .one (.q k u _ _ _ _)=>u=0/\∃z es,ma[k]?=some (some (.vec z es))/\∀c∈es.flatMap id,c.names=[]
 |v=>Rj ma.length v=true
def A0H(n:Nat):SV->Bool
 | .one (.q k _ _ _ _ _)=>decide (k<n)
 |_=>true
theorem gM{ks:List Nat}(hq:A0H ks.length v=true)(h:∀k∈ks,H' k=H k):E5 H' ks t v=E5 H ks t v:=by
 cases v with
 |one c=>
  cases c with
  |q k u p s m o=>
   have hlt:k<ks.length:=of_decide_eq_true hq
   have hk:ks[k]?=some ks[k]:=getElem?_eq_getElem hlt
   have e:vrQ H' ks t k=vrQ H ks t k:=by unfold vrQ;rw[RL hk,h _ (List.getElem_mem hlt)]
   simp only[E5,EE,e]
  |_=>rfl
 |agg l=>rfl
 |tup l=>rfl
theorem vK{k:Nat}{p:Prop}(hk:H k=none)(r:Ap h fz lab I H v x):Ap h fz lab I (updH H [(k,.fact p)]) v x:=by
 have sc:∀{c x},SC h fz lab I H c x->SC h fz lab I (updH H [(k,.fact p)]) c x:=by
  intro c x r
  have vw:∀{n u q y},Vw h I H n u q y->Vw h I (updH H [(k,.fact p)]) n u q y:=by
   rintro n u q y ⟨h1,h2⟩
   refine⟨h1,λu' z es hk'=>?_⟩
   by_cases e:n=k
   .subst e;simp[updH,upd]at hk'
   exact h2 u' z es (by simpa only[updH,Bm _ _ e] using hk')
  cases c with
  |vw n u q=>exact vw r
  |q n u q s m o=>obtain⟨y,h1,h2⟩:=r;exact⟨y,vw h1,h2⟩
  |_=>exact r
 have csd:∀{l arr},ER h fz lab I H l arr->ER h fz lab I (updH H [(k,.fact p)]) l arr:=by
  intro l arr r
  exact⟨r.1,λj c hj=>by obtain⟨y,y1,y2⟩:=r.2 j c hj;exact⟨y,y1,sc y2⟩⟩
 cases v with
 |one c=>exact sc r
 |agg l=>obtain⟨arr,e1,e2⟩:=r;exact⟨arr,e1,csd e2⟩
 |tup l=>
 obtain⟨arr,e1,e2,e3⟩:=r
 refine⟨arr,e1,e2,λj q hj=>?_⟩
 obtain⟨y,y1,y2⟩:=e3 j q hj
 refine⟨y,y1,?_⟩
 cases q with
 |inl c=>exact sc y2
 |inr l=>obtain⟨arr,e1,e2⟩:=y2;exact⟨arr,e1,csd e2⟩
theorem kX{f:Nat->Nat}{z:List C}{es:List (List C)}(h:∀c∈es.flatMap id,c.names=[]):ML.ren f (.vec z es)= .vec z es:=by
 show ML.vec z (es.map λr=>r.map (rnC f))=_
 rw[DR λr hr=>DR λc hc=>F8 (h c (List.mem_flatMap.2 ⟨r,hr,hc⟩))]
theorem gN{ma:List (Option ML)}{k:Nat}(h:Xi ma v)(hk:k∈(E5 H ks t v).names):∃i,i<ma.length/\k=nmX ks t i:=by
 cases v with
 |one c=>
  cases c with
  |q k' u p s m o=>
   obtain⟨_,z,es,h1,_⟩:=h
   simp only[E5,EE,SV.names,C.names,List.mem_singleton]at hk
   exact⟨k',(List.getElem?_eq_some_iff.1 h1).1,hk⟩
  |_=>exact La (v:=.one _) h hk
 |agg l=>exact La (v:=.agg l) h hk
 |tup l=>exact La (v:=.tup l) h hk
theorem vL{fz':Nat->Prop}{lab':Lab}{I':Nm}{ma:List (Option ML)}(hz:∀b,fz b->fz' b)(hI:∀i,i<ma.length->I' (nmX ks t i)=I i)
  (hq:∀i z es,ma[i]?=some (some (.vec z es))->(∀c∈es.flatMap id,c.names=[])->H' (nmX ks t i)=some (.vec (vrQ H ks t i) z es)) (ho:Xi ma v) (r:Ap h fz lab I (lkp (lmO 0 ma)) v x):Ap h fz' lab' I' H' (E5 H ks t v) x:=by
 cases v with
 |one c=>
  cases c with
  |q k u p s m o=>
   obtain⟨rfl,z,es,h1,h2⟩:=ho
   obtain⟨y,⟨y1,y2⟩,rfl⟩:=r
   refine⟨y,⟨y1,λu' z' es' hk=>?_⟩,rfl⟩
   rw[hq k z es h1 h2]at hk
   simp only[jS,Ch.vec.injEq]at hk
   obtain⟨rfl,rfl,rfl⟩:=hk
   refine⟨Nat.le_refl _,λ_ hp=>?_⟩
   rw[hI k (List.getElem?_eq_some_iff.1 h1).1]
   exact(y2 0 z es (by rw[Hz,h1];rfl)).2 rfl hp
  |_=>exact WN (v:=.one _) hz hI ho r
 |agg l=>exact WN (v:=.agg l) hz hI ho r
 |tup l=>exact WN (v:=.tup l) hz hI ho r
section
variable {P:Program}
theorem A4k(am:ArgL A){w:World}{args:List SV}{xs:List Value}(hA:AtW X w0 I lab fz H w)(ht:∀e,e<=1->H (xt t e)=none){a:A}(ha:am.d H args=some (a,ks))(hnd:ndB ks=true)
  (hlx:args.length=xs.length) (hx:∀(j:Nat) (v:SV) (x:Value),args[j]?=some v->xs[j]?=some x->Ap (hp w) fz lab I H v x) :
  ∃(Mc:Nat->Prop) (Ic:Nm) (labc:Lab),AtW (mX Mc fz Ic (am.mem a).length) w Ic labc fz (lkp (lmH 0 (am.mem a))) w/\xs.length=(am.args a).length/\
   (∀(j:Nat) (v:SV) (x:Value),(am.args a)[j]?=some v->xs[j]?=some x->Ap (hp w) fz labc Ic (lkp (lmH 0 (am.mem a))) v x)/\
   ∀(ma:List (Option ML)),PW (am.mem a).length ma=true->kdL (am.mem a) ma=true->(∀q,some q∈ma->Ka ma.length q)->∀r,Xi ma r->∀en w',Tv w Mc fz Ic (am.mem a).length ma r en w'->∃x,en= .returned x/\I6 X w0 w I lab fz H (some (E5 H ks t r)) (CU H t (nmX ks t) ks ma) x w':=by
 obtain⟨g1,g2,g3⟩:=am.h H args a ks ha
 have htk:∀e,e<=1->xt t e∉ks:=by
  intro e he hm
  obtain⟨i,hi⟩:=List.mem_iff_getElem?.1 hm
  obtain⟨m,_,e1⟩:=g3 i _ hi
  rw[ht e he]at e1
  cases m<;>exact e1.elim
 have hsome:∀(i k:Nat),ks[i]?=some k->∃ch m,H k=some ch/\(am.mem a)[i]?=some m/\chM (some ch) (m.ren (nmK ks)):=by
  intro i k hk
  obtain⟨m,e1,e2⟩:=g3 i k hk
  cases hH:H k with
  |none=>rw[hH]at e2;cases m<;>exact e2.elim
  |some ch=>simp_all
 let labc:Lab:=λb=>match lab b with
  |some (n::ρ)=>match pos ks n with|some i=>some (i::ρ)|none=>none
  |_=>none
 let Mc:Nat->Prop:=λb=>(labc b).isSome=true
 let Ic:Nm:=λi=>I (nmK ks i)
 have hlc:∀(i k:Nat),ks[i]?=some k->∀b ρ,lab b=some ([k]++ρ)->labc b=some ([i]++ρ):=by
  intro i k hk b ρ hb
  have hp':=Od hnd hk
  simp only[labc,hb,List.cons_append,List.nil_append,hp']
 have hlcs:∀b π,labc b=some π->∃(k i:Nat) (ρ:List Nat),ks[i]?=some k/\lab b=some (k::ρ)/\π=i::ρ:=by
  exact r9
 have hMc:∀b,Mc b->∃(k i:Nat) (ρ:List Nat),ks[i]?=some k/\lab b=some (k::ρ):=by grind
 have hMn:∀b,fz b->¬Mc b:=by
  intro b hb hm
  obtain⟨k,i,ρ,_,e2⟩:=hMc b hm
  rw[(hA.fzl b hb).2]at e2;cases e2
 have hAc:AtW (mX Mc fz Ic (am.mem a).length) w Ic labc fz (lkp (lmH 0 (am.mem a))) w:=by
  refine⟨λi ch hi=>?_,λi ch hi=>?_,λb π hb=>?_,λb hb=>⟨(hA.fzl b hb).1,?_⟩,λb hb=>.inl hb,Kept.refl _ _,λp hp'=>?_⟩
  .rw[lmH,Hz]at hi
   simp only[List.getElem?_map,Option.map_eq_some_iff]at hi
   obtain⟨o,⟨m,hm,rfl⟩,rfl⟩:=hi
   obtain⟨k,hk⟩:∃k,ks[i]?=some k:=⟨_,getElem?_eq_getElem (by rw[g2];exact(List.getElem?_eq_some_iff.1 hm).1)⟩
   obtain⟨ch,m',e1,e2,e3⟩:=hsome i k hk
   rw[hm]at e2;simp only[jS]at e2;subst e2
   have hIc:Ic i=I k:=by simp only[Ic,nmK,hk,getD_some]
   exact A4i (n:=(am.mem a).length) e3 (am.n a m (mem_of_getElem? hm)) (λj _=>rfl) hIc (hlc i k hk) (hA.h k _ e1)
  .rw[lmH,Hz]at hi
   simp only[List.getElem?_map,Option.map_eq_some_iff]at hi
   obtain⟨o,⟨m,hm,rfl⟩,rfl⟩:=hi
   intro n hn'
   have:=oZ (am.n a m (mem_of_getElem? hm)) n hn'
   show (lkp (lmH 0 (am.mem a)) n).isSome=true
   rw[lmH,Hz]
   simp[this]
  .exact AAz
  .grind
  .obtain⟨q1,q2,q3⟩:=Ih hp'
   refine⟨?_,q3.symm⟩
   rw[lmH,Hz]
   have:p.1<(am.mem a).length:=by omega
   simp[this]
 refine⟨Mc,Ic,labc,hAc,by rw[<- hlx,g1,List.length_map],?_,?_⟩
 .intro j v' x hj hxj
  refine A4j (f:=nmK ks) (am.an a v' (mem_of_getElem? hj)) (λi _=>rfl) (hx j _ x ?_ hxj)
  rw[g1];simp[hj]
 .rintro ma hla hkd hna r hor en w' ⟨x,Ic',labc',fz',rfl,hB,hv⟩
  have hlm:=hla
  rw[<- g2]at hlm
  obtain⟨l1,l2,l3⟩:=Us hlm
  refine⟨x,rfl,?_⟩
  let nm:Nat->Nat:=nmX ks t
  let lab':Lab:=λb=>match labc' b with
   |some (i::ρ)=>some (nm i::ρ)
   |some []=>some []
   |none=>if (labc b).isSome=true then none else lab b
  let I':Nm:=λn=>match J5 t n with|some e=>Ic' (ks.length+e)|none=>I n
  let fz2:Nat->Prop:=λb=>fz b∨fz' b
  have hIfix:∀i,i<ks.length->Ic' i=Ic i:=by
   intro i hi
   have:=(hB.fix (i,Ic i) (VA (by omega) (by omega))).2
   exact this
  have hInm:∀i,i<ma.length->I' (nm i)=Ic' i:=by
   intro i hi
   by_cases h1:i<ks.length
   .obtain⟨k,hk⟩:∃k,ks[i]?=some k:=⟨_,getElem?_eq_getElem h1⟩
    have e1:nm i=k:=RL hk
    have e2:J5 t k=none:=by
     cases hx:J5 t k with
     |none=>rfl
     |some e=>obtain⟨q1,q2⟩:=PA hx;exact absurd (mem_of_getElem? hk) (by rw[q1];exact htk e q2)
    rw[e1,hIfix i h1]
    simp only[I',e2,Ic,nmK,hk,getD_some]
   .have e1:nm i=xt t (i-ks.length):=Tu h1
    rw[e1]
    simp only[I',Tt (show i-ks.length<=1 by omega)]
    rw[show ks.length+(i-ks.length)=i by omega]
  have hkB:∀b,b<w.heap.size->¬Mc b->hp w' b=hp w b:=λb h1 h2=>hB.kept.block b h1 h2
  have hfzk:∀b,fz b->hp w' b=hp w b:=λb hb=>hkB b (hA.fzl b hb).1 (hMn b hb)
  have hkn:∀n,pos ks n=none->∀b ρ,lab b=some ([n]++ρ)->labc b=none:=by grind
  have hlabc':∀b π,labc' b=some π->w.heap.size<=b∨Mc b:=λb π hb=>(hB.own b π hb).2
  have hnl:∀b,w.heap.size<=b->lab b=none:=by
   intro b hb
   cases h:lab b with
   |none=>rfl
   |some π=>have:=(hA.own b π h).1;omega
  have hlk:∀i b ρ,labc' b=some ([i]++ρ)->lab' b=some ([nm i]++ρ):=by grind
  have hoth:∀n,pos ks n=none->∀b ρ,lab b=some ([n]++ρ)->lab' b=some ([n]++ρ)/\hp w' b=hp w b:=by
   intro n hp' b ρ hb
   have h1:=hkn n hp' b ρ hb
   have h2:¬Mc b:=by simp only[Mc,h1];simp
   have h3:=(hA.own b _ hb).1
   refine⟨?_,hkB b h3 h2⟩
   have h4:labc' b=none:=by
    cases h:labc' b with
    |none=>rfl
    |some π=>
     rcases hlabc' b π h with h|h
     .omega
     .exact absurd h h2
   simp only[lab',h4,h1,Option.isSome_none,jB,if_false];exact hb
  have hget:=RM H t nm ks ma H
  have hmem:∀i o,ma[i]?=some o->lkp (lmO 0 ma) i=some (chL o):=by intro i o hi;rw[Hz,hi];rfl
  have hcell:∀i q,ma[i]?=some (some q)->Mw (hp w') fz2 lab' I' (nm i) (q.ren nm).ch:=by
   intro i q hi
   have hlt:=(List.getElem?_eq_some_iff.1 hi).1
   exact A0G (n:=ma.length) (λb hb=>⟨.inr hb,rfl⟩) (hna q (mem_of_getElem? hi)) hInm (hInm i hlt) (λb ρ hb=>⟨hlk i b ρ hb,rfl⟩) (hB.h i _ (hmem i _ hi))
  have hxn:∀n,(H n).isSome=true->J5 t n=none:=by
   intro n hn'
   cases hx:J5 t n with
   |none=>rfl
   |some e=>obtain⟨q1,q2⟩:=PA hx;rw[q1,ht e q2]at hn';cases hn'
  have hdomI:∀n,(H n).isSome=true->I' n=I n:=by
   intro n hn'
   simp only[I',hxn n hn']
  have hsomeH:∀n,(H n).isSome=true->(updH H (CU H t nm ks ma) n).isSome=true:=by
   intro n hn'
   exact GT (l:=[n]) _ (by intro q hq;simp at hq;subst hq;exact hn') n (by simp)
  have hnmdom:∀i,i<ma.length->(updH H (CU H t nm ks ma) (nm i)).isSome=true:=by
   intro i hi
   by_cases h1:i<ks.length
   .obtain⟨k,hk⟩:∃k,ks[i]?=some k:=⟨_,getElem?_eq_getElem h1⟩
    have e1:nm i=k:=RL hk
    obtain⟨ch,m,e2,_⟩:=hsome i k hk
    rw[e1];exact hsomeH k (by rw[e2];rfl)
   .have hle:i-ks.length<=1:=by omega
    have e1:nm i=xt t (i-ks.length):=Tu h1
    rw[e1,hget _ hnd htk hlm]
    have:pos ks (xt t (i-ks.length))=none:=by
     exact AAk
    rw[this,Tt hle]
    have e0:ks.length+(i-ks.length)=i:=by omega
    obtain⟨q,hq⟩:=l3 (i-ks.length) _ (getElem?_eq_getElem (by omega))
    simp only[e0]at hq ⊢
    rw[getElem?_eq_getElem (by omega),hq];rfl
  have hbch:∀o0 (q:ML),chNames (Di o0 (some q))=chNames q.ch:=by
   intro o0 q
   cases o0 with
   |none=>cases q<;>rfl
   |some c=>cases c<;>cases q<;>rfl
  have hdch:∀o0,Di o0 none= .dead:=by
   intro o0
   cases o0 with
   |none=>rfl
   |some c=>cases c<;>rfl
  have hbAt:∀n o0 (q:ML),Mw (hp w') fz2 lab' I' n q.ch->Mw (hp w') fz2 lab' I' n (Di o0 (some q)):=by
   intro n o0 q h
   cases o0 with
   |none=>cases q<;>exact h
   |some c=>cases c<;>cases q<;>exact h
  refine⟨I',lab',fz2,⟨λn ch h=>?_,λn ch h=>?_,λb π hb=>?_,λb hb=>?_,λb hb=>?_,Kept.trans hA.kept hB.kept ?_,λp hp'=>?_⟩,?_,⟨λb hb=>⟨.inl hb,hfzk b hb⟩,hdomI,?_⟩⟩
  .rw[hget n hnd htk hlm]at h
   split at h
   .rename_i i hp'
    simp only[jS]at h
    subst h
    have hk:=FG hp'
    have hlt:=(List.getElem?_eq_some_iff.1 hk).1
    obtain⟨o,ho'⟩:∃o,ma[i]?=some o:=⟨_,getElem?_eq_getElem (by omega)⟩
    rw[ho',getD_some]
    cases o with
    |none=>rw[map_none,hdch];trivial
    |some q=>
     refine hbAt n _ _ ?_
     have:=hcell i q ho'
     have e1:nm i=n:=RL hk
     rwa [e1]at this
   .rename_i hp'
    have old:H n=some ch->Mw (hp w') fz2 lab' I' n ch:=λh=>
     Lw hA h (λb hb=>⟨.inl hb,hfzk b hb⟩) hdomI (hoth n hp')
    split at h
    .rename_i e hx
     obtain⟨q1,q2⟩:=PA hx
     split at h
     .rename_i q hq
      simp only[jS]at h
      subst h
      have:=hcell (ks.length+e) q hq
      have e1:nm (ks.length+e)=xt t e:=by
       show nmX ks t (ks.length+e)=_
       rw[Tu (by omega),show ks.length+e-ks.length=e by omega]
      rw[e1,<- q1]at this
      exact this
     .exact old h
    .exact old h
  .have inn:∀(q:ML) (i:Nat),ma[i]?=some (some q)->Dom (updH H (CU H t nm ks ma)) (chNames (q.ren nm).ch):=by
    intro q i hq k hk
    obtain⟨j,hj,rfl⟩:=kW (hna q (mem_of_getElem? hq)) k hk
    exact hnmdom j hj
   rw[hget n hnd htk hlm]at h
   split at h
   .rename_i i hp'
    simp only[jS]at h
    subst h
    have hk:=FG hp'
    have hlt:=(List.getElem?_eq_some_iff.1 hk).1
    obtain⟨o,ho'⟩:∃o,ma[i]?=some o:=⟨_,getElem?_eq_getElem (by omega)⟩
    rw[ho',getD_some]
    cases o with
    |none=>rw[map_none,hdch];intro k hk;cases hk
    |some q=>rw[map_some,hbch];exact inn q i ho'
   .split at h
    .split at h
     .rename_i q hq
      simp only[jS]at h
      subst h
      exact inn q _ hq
     .exact λk hk=>hsomeH k (hA.wf n ch h k hk)
    .exact λk hk=>hsomeH k (hA.wf n ch h k hk)
  .exact SX
  .exact RJ
  .exact oQ
  .exact AA7
  .obtain⟨q1,q2⟩:=hA.fix p hp'
   exact⟨hsomeH p.1 q1,by rw[hdomI p.1 q1];exact q2⟩
  .intro s hs
   simp only[jS]at hs
   subst hs
   refine vL (λb hb=>.inr hb) hInm ?_ hor hv
   intro i z es hi hz
   have hlt:=(List.getElem?_eq_some_iff.1 hi).1
   have e2:ML.ren nm (.vec z es)= .vec z es:=kX hz
   by_cases h1:i<ks.length
   .obtain⟨k,hk⟩:∃k,ks[i]?=some k:=⟨_,getElem?_eq_getElem h1⟩
    have e1:nm i=k:=RL hk
    show updH H (CU H t nm ks ma) (nm i)=_
    rw[e1,hget k hnd htk hlm,Od hnd hk]
    simp only[hi,getD_some,map_some,e2]
    unfold vrQ
    rw[RL hk]
    obtain⟨ch0,m,e4,e5,e6⟩:=hsome i k hk
    rw[e4]
    cases ch0 with
    |vec u0 z0 es0=>rfl
    |mp ag0 es0=>
     cases m with
     |vec=>exact e6.elim
     |mp ag1 es1=>exact(Xh hkd e5 hi).elim
    |dead=>cases m<;>exact e6.elim
    |fact=>cases m<;>exact e6.elim
   .have hle:i-ks.length<=1:=by omega
    have e1:nm i=xt t (i-ks.length):=Tu h1
    show updH H (CU H t nm ks ma) (nm i)=_
    rw[e1,hget _ hnd htk hlm]
    have:pos ks (xt t (i-ks.length))=none:=by
     exact AAk
    rw[this,Tt hle]
    have e0:ks.length+(i-ks.length)=i:=by omega
    simp only[e0,hi,e2]
    unfold vrQ
    rw[Tu h1,ht _ hle];rfl
  .intro n u p y hn' hv'
   obtain⟨ch,hch⟩:=Option.isSome_iff_exists.1 hn'
   cases hp':pos ks n with
   |none=>
    have hsame:updH H (CU H t nm ks ma) n=H n:=by rw[hget n hnd htk hlm,hp'];simp only[hxn n (by rw[hch];rfl)]
    exact AAT
   |some i=>
    have hk:=FG hp'
    obtain⟨ch0,m,e1,e2,e3⟩:=hsome i n hk
    have hnew:updH H (CU H t nm ks ma) n=some (Di (H n) (((ma[i]?).getD none).map (ML.ren nm))):=by rw[hget n hnd htk hlm,hp']
    cases hq:(ma[i]?).getD none with
    |none=>
     rw[hq,map_none,hdch]at hnew
     exact Jz hnew hv'
    |some q=>
     rw[hq,e1,map_some]at hnew
     cases q with
     |mp ag es=>
      refine⟨hv'.1,λu' z es' hk'=>?_⟩
      rw[hnew]at hk'
      cases ch0<;>cases hk'
     |vec z es=>
      cases ch0 with
      |vec u0 z0 es0=>exact L1 hA e1 hnew (by omega) hv'
      |mp ag0 es0=>
       cases m with
       |vec=>exact e3.elim
       |mp ag1 es1=>
        refine(Xh hkd e2 (z:=z) (es':=es) ?_).elim
        cases ho:ma[i]? with
        |none=>rw[ho]at hq;cases hq
        |some o=>rw[ho,getD_some]at hq;rw[hq]
      |dead=>cases m<;>exact e3.elim
      |fact=>cases m<;>exact e3.elim
def fcN(t:Nat):Nat:=t+500000
def spL(X:Ctx){A:Type}(o:Option (A×List Nat))(t:Nat)(H:Hp)(Cd:A->Prop)(bad:A->Bool)(res:A->SV)(mem' pan:A->List (Option ML)):Res:=
 match o,H (fcN t),H (t+600000) with
 |some (a,ks),none,none=>some (Cd a/\ndB ks=true/\(bad a=true->pnO X.pn (updH H (CU H t (nmX ks t) ks (pan a)))),⟨E5 H ks t (res a),CU H t (nmX ks t) ks (mem' a)++[(fcN t,.fact (bad a=false))]⟩,t::(t+600000)::fcN t::(ks++pnN X.pn))
 |_,_,_=>none
theorem Ci(X:Ctx)(a:A)(ks:List Nat)(t:Nat)(H:Hp)(Cd:A->Prop)(bad:A->Bool)(res:A->SV)(mem' pan:A->List (Option ML)):spL X (some (a,ks)) t H Cd bad res mem' pan=match H (fcN t),H (t+600000) with
 |none,none=>some (Cd a/\ndB ks=true/\(bad a=true->pnO X.pn (updH H (CU H t (nmX ks t) ks (pan a)))),⟨E5 H ks t (res a),CU H t (nmX ks t) ks (mem' a)++[(fcN t,.fact (bad a=false))]⟩,t::(t+600000)::fcN t::(ks++pnN X.pn))
 |_,_=>none:=by unfold spL;cases H (fcN t)<;>cases H (t+600000)<;>rfl
theorem ah(ht:H t=none)(h2:H (t+600000)=none):∀e,e<=1->H (xt t e)=none
 |0,_=>ht
 |1,_=>h2
 |e+2,h=>absurd h (by omega)
def Dc{X:Ctx}{w0:World}(f:FuncId)(call:∀(args:Array Value) (w:World),(callFunc f args).run P w= .ok (.enter f args) w){A:Type}(am:ArgL A)(Cd:A->Prop)(bad:A->Bool)(res:A->SV)(mem' pan:A->List (Option ML))
  (hl:∀a,Cd a->bad a=false->PW (am.mem a).length (mem' a)=true/\kdL (am.mem a) (mem' a)=true/\Xi (mem' a) (res a)/\∀q,some q∈mem' a->Ka (mem' a).length q)
  (hp':∀a,Cd a->bad a=true->(pan a).length=(am.mem a).length/\kdL (am.mem a) (pan a)=true/\∀q,some q∈pan a->Ka (pan a).length q)
  (hd':∀a,Cd a->bad a=true->PW (am.mem a).length (mem' a)=true/\Xi (mem' a) (res a))
  (hrl:∀a,A0H (am.mem a).length (res a)=true)
  (ok:Dj P f am.args am.mem Cd bad res mem' pan):Spec P X w0 where
 f:=f
 call:=call
 fn t args H:=spL X (am.d H args) t H Cd bad res mem' pan
 ok w I lab fz H t args xs c e fp hA ht h hc hd hlx hx:=by
  unfold spL at h
  split at h
  .rename_i a ks ha hfr hf6
   simp only[jS,jP]at h
   obtain⟨rfl,rfl,rfl⟩:=h
   obtain⟨hCd,hnd,hbad⟩:=hc
   obtain⟨g1,g2,g3⟩:=am.h H args a ks ha
   have hfs:=ah ht hf6
   obtain⟨Mc,Ic,labc,hAc,hlen',hargs,key⟩:=A4k am hA hfs ha hnd hlx hx
   have hsm:∀k,k∈ks->(H k).isSome=true:=by
    intro k hm
    obtain⟨i,hi⟩:=List.mem_iff_getElem?.1 hm
    obtain⟨m,_,e1⟩:=g3 i k hi
    cases hH:H k with
    |none=>rw[hH]at e1;cases m<;>exact e1.elim
    |some _=>rfl
   have hks:∀k,H k=none->k∉ks:=λk hk hm=>by have:=hsm k hm;rw[hk]at this;cases this
   have htk:∀e,e<=1->xt t e∉ks:=λe he=>hks _ (hfs e he)
   have hfk:=hks _ hfr
   refine(ok a w Mc Ic labc fz xs hCd hAc hlen' hargs).mono ?_
   rintro en w' (⟨hb,hm⟩|⟨hb,ch,rfl,hch,I',lab',fz',hB⟩)
   .obtain⟨q1,q2,q3,q4⟩:=hl a hCd hb
    obtain⟨x,rfl,I2,lab2,fz2,r1,r2,r3⟩:=key (mem' a) q1 q2 q4 (res a) q3 en w' hm
    have hfn:updH H (CU H t (nmX ks t) ks (mem' a)) (fcN t)=none:=by
     rw[RM H t (nmX ks t) ks (mem' a) H _ hnd htk (by rw[g2];exact q1)]
     have hp2:pos ks (fcN t)=none:=by
      cases hp2:pos ks (fcN t) with
      |none=>rfl
      |some j=>exact absurd (mem_of_getElem? (FG hp2)) hfk
     have hx2:J5 t (fcN t)=none:=by unfold J5 fcN;rw[if_neg (by omega),if_neg (by omega)]
     rw[hp2,hx2]
     exact hfr
    refine .inl ⟨x,rfl,I2,lab2,fz2,?_,λs hs=>?_,r3.z,r3.n,λk u p y hk hv=>?_⟩
    .rw[JH];exact dP r1 hfn hb
    .simp only[jS]at hs
     subst hs
     rw[JH]
     exact vK hfn (r2 _ rfl)
    .have hkt:k≠fcN t:=by rintro rfl;rw[hfr]at hk;cases hk
     have h0:=r3.w k u p y hk hv
     refine⟨h0.1,λu' z es hk'=>h0.2 u' z es ?_⟩
     rw[JH]at hk'
     simpa only[updH,Bm _ _ hkt] using hk'
   .obtain⟨q1,q2,q3⟩:=hp' a hCd hb
    have hll:∀{n:Nat} {m:List (Option ML)},m.length=n->PW n m=true:=by
     intro n
     induction n with
     |zero=>intro m hm;cases m with
      |nil=>rfl
      |cons _ _=>cases hm
     |succ n ih=>intro m hm;cases m with
      |nil=>cases hm
      |cons _ r=>exact ih (by simpa using hm)
    obtain⟨x,_,I2,lab2,fz2,r1,_,_⟩:=key (pan a) (hll q1) q2 q3 (.one (.v (.bool false))) rfl (.returned (.bool false)) w' ⟨.bool false,I',lab',fz',rfl,hB,Hg rfl⟩
    exact .inr ⟨ch,rfl,hch,I2,lab2,fz2,_,r1,hbad hb⟩
  .cases h
 dom t args H c e fp ht hc h hd:=by
  unfold spL at h
  split at h
  .rename_i a ks ha hfr hf6
   simp only[jS,jP]at h
   obtain⟨rfl,rfl,rfl⟩:=h
   obtain⟨hCd,hnd,_⟩:=hc
   obtain⟨g1,g2,g3⟩:=am.h H args a ks ha
   have hsm:∀k,k∈ks->(H k).isSome=true:=by
    intro k hm
    obtain⟨i,hi⟩:=List.mem_iff_getElem?.1 hm
    obtain⟨m,_,e1⟩:=g3 i k hi
    cases hH:H k with
    |none=>rw[hH]at e1;cases m<;>exact e1.elim
    |some _=>rfl
   have htk:∀e,e<=1->xt t e∉ks:=λe he hm=>by have:=hsm _ hm;rw[ah ht hf6 e he]at this;cases this
   have q:PW (am.mem a).length (mem' a)=true/\Xi (mem' a) (res a):=by grind
   obtain⟨q1,q3⟩:=q
   rw[<- g2]at q1
   obtain⟨l1,l2,l3⟩:=Us q1
   refine⟨λk hk=>?_,λp hp2=>?_⟩
   .obtain⟨i,hi,rfl⟩:=gN q3 hk
    rw[JH]
    refine Bc (l:=[nmX ks t i]) (λn hn'=>?_) _ _ _ (by simp)
    simp only[List.mem_singleton]at hn'
    subst hn'
    rw[RM H t (nmX ks t) ks (mem' a) H _ hnd htk q1]
    by_cases h1:i<ks.length
    .have hk:ks[i]?=some ks[i]:=getElem?_eq_getElem h1
     rw[RL hk,Od hnd hk];rfl
    .have hle:i-ks.length<=1:=by omega
     have hp2:pos ks (xt t (i-ks.length))=none:=by
      cases hp2:pos ks (xt t (i-ks.length)) with
      |none=>rfl
      |some j=>exact absurd (mem_of_getElem? (FG hp2)) (htk _ hle)
     rw[Tu h1,hp2,Tt hle]
     have e0:ks.length+(i-ks.length)=i:=by omega
     obtain⟨q,hq⟩:=l3 (i-ks.length) _ (getElem?_eq_getElem (by omega))
     simp only[e0]at hq ⊢
     rw[getElem?_eq_getElem (by omega),hq];rfl
   .rcases List.mem_append.1 hp2 with hp2|hp2
    .have:=Yi H t (nmX ks t) ks _ l2 hp2
     simp only[List.mem_cons,mem_append,xt]at this ⊢
     rcases this with h|h|h
     .exact .inl h
     .omega
     .simp_all
    .simp_all
  .cases h
 loc t args H H' c e fp h hf:=by
  unfold spL at h ⊢
  split at h
  .rename_i a ks ha hfr hf6
   simp only[jS,jP]at h
   obtain⟨rfl,rfl,rfl⟩:=h
   have hk':∀k∈ks,H' k=H k:=λk hk=>hf k (by simp only[List.mem_cons,mem_append];exact .inr (.inr (.inr (.inl hk))))
   have h1:=am.l H H' args a ks ha hk'
   have h0:H' (fcN t)=none:=(hf _ (by simp)).trans hfr
   have h6:H' (t+600000)=none:=(hf _ (by simp)).trans hf6
   rw[h1,h0,h6]
   have h3:∀m,CU H' t (nmX ks t) ks m=CU H t (nmX ks t) ks m:=λm=>W7 t _ ks m hk'
   have h4:pnO X.pn (updH H' (CU H t (nmX ks t) ks (pan a)))=pnO X.pn (updH H (CU H t (nmX ks t) ks (pan a))):=Sd λk hk=>RY _ (hf k (by simp only[List.mem_cons,mem_append];exact .inr (.inr (.inr (.inr hk)))))
   have h5:E5 H' ks t (res a)=E5 H ks t (res a):=gM (by rw[(am.h H args a ks ha).2.1];exact hrl a) hk'
   simp only[h3,h4,h5]
  .cases h
theorem DS(f call)(am:ArgL A)(Cd bad res mem' pan hl hp' hd' hrl ok):(Dc (P:=P) (X:=X) (w0:=w0) f call am Cd bad res mem' pan hl hp' hd' hrl ok).f=f:=rfl
theorem Cu(f call)(am:ArgL A)(Cd bad res mem' pan hl hp' hd' hrl ok)(t:Nat)(args:List SV)(H:Hp):(Dc (P:=P) (X:=X) (w0:=w0) f call am Cd bad res mem' pan hl hp' hd' hrl ok).fn t args H=spL X (am.d H args) t H Cd bad res mem' pan:=rfl
end
end Go.Sy
