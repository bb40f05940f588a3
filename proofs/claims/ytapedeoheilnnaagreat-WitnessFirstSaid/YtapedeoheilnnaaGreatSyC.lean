/- A symbolic executor, further. No conditions but those in each statement. -/
import Derived.Test.YtapedeoheilnnaaGreatSyB
set_option linter.all false
open Bool (or_eq_true and_eq_true not_eq_true')
open Array (mem_toList_iff getElem?_toList length_toList)
open Option (bind_eq_some_iff getD_none map_eq_some_iff map_some getD_some)
open List (length_cons length_nil append_nil mem_of_getElem? getElem?_map getElem?_cons_zero getElem?_cons_succ getElem?_eq_getElem mem_singleton mem_cons_of_mem mem_flatMap mem_cons_self flatMap_cons mem_map mem_cons all_eq_true map_cons mem_iff_getElem? set_set not_mem_nil)
namespace Go.Sy
open Go.RowKit
theorem If{P:Prop}(h:P:=by
 rintro e a w' (⟨s,hq,hs⟩|⟨ch,rfl,_,_,I1,l1,f1,H1,_,hpn⟩)
 rotate_left
 .exact hpn.elim
 have fin:Mx P (clX fz) fn.results.toList (λ_ vs=>(F0 vs).names=[]/\R (F0 vs)) s->a.defers=[]/\∃v,(results fn a.tmps).run P w'= .ok v w'/\KS w fz R (Ending.returned v) w':=by
  rintro ⟨cs,s',vs,h1,h2,h3,h4,h5⟩
  refine⟨hs.defers,?_⟩
  obtain⟨_,I,lab,fz',hA⟩:=Gm h1 a w' hs
  obtain⟨x,x1,x2⟩:=K4 hA h2 h3
  refine⟨x,x1,F0 vs,x,λb=>fz' b∨fz b,rfl,h5,h4,λb hb=>.inr hb,λb hb=>?_,λb hb=>?_,HT (λb hb=>⟨.inl hb,rfl⟩) h4 x2,hA.m.kept.below (λ_ _ hf=>hf)⟩
  .rcases hb with hb|hb
   .rcases hA.m.fzo b hb with h|h|h
    .exact .inl h
    .exact .inr h
    .exact h.elim
   .exact .inl hb
  .rcases hb with hb|hb
   .exact(hA.m.fzl b hb).1
   .exact Nat.lt_of_lt_of_le (hfz b hb) hA.m.kept.size
 cases e with
 |normal=>exact fin hq
 |ret=>exact fin hq
 |_=>exact hq.elim):P:=h
theorem P9{P:Prop}(h:P:=by
 simp only[rV,jS,jP]at h
 obtain⟨rfl,rfl,rfl⟩:=h
 exact val (nil rfl)):P:=h
theorem RG{P:Prop}(h:P:=by
 cases ch with
 |dead=>trivial
 |fact p=>
  cases c0 with
  |fact q=>exact g1 h0
  |_=>exact g1.elim
 |vec u z es=>
  cases c0 with
  |vec u2 z2 es2=>
   obtain⟨e1,rfl,e9⟩:=g1
   refine⟨h0.1,h0.2.1.trans e1,?_⟩
   rcases h0.2.2 with h3|⟨b,off,cap,arr,T,h3,h4,h5,h6,h7,h8⟩
   .exact .inl h3
   rw[e1]at h6 h8
   exact .inr ⟨b,off,cap,arr,T,h3,h4,h5,⟨h6.1,Xm e9 h6.2⟩,h7,h8⟩
  |dead=>exact g1.elim
  |fact=>exact g1.elim
  |mp=>exact g1.elim
 |mp ag es=>
 cases c0 with
 |mp ag2 es2=>obtain⟨rfl,rfl⟩:=g1;exact h0
 |dead=>exact g1.elim
 |fact=>exact g1.elim
 |vec=>exact g1.elim):P:=h
theorem RJ{P:Prop}(h:P:=by
 rcases hb with hb|hb
 .have h1:=hA.fzl b hb
  have h2:=hMn b hb
  have h3:labc' b=none:=by
   cases h:labc' b with
   |none=>rfl
   |some π=>
    rcases hlabc' b π h with h|h
    .omega
    .exact absurd h h2
  refine⟨Nat.lt_of_lt_of_le h1.1 hB.kept.size,?_⟩
  simp only[lab',h3]
  split
  .rfl
  .exact h1.2
 .have h1:=hB.fzl b hb
  refine⟨h1.1,?_⟩
  simp only[lab',h1.2]
  split
  .rfl
  .rename_i hm
   rcases hB.fzo b hb with h|h|h
   .exact(hA.fzl b h).2
   .exact hnl b h
   .exact absurd h hm):P:=h
theorem SX{P:Prop}(h:P:=by
 simp only[lab']at hb
 split at hb
 .rename_i i ρ hlb
  refine⟨(hB.own b _ hlb).1,?_⟩
  rcases hlabc' b _ hlb with h|h
  .exact .inl (Nat.le_trans hA.kept.size h)
  .obtain⟨k,i,ρ,_,e2⟩:=hMc b h
   exact(hA.own b _ e2).2
 .rename_i hlb
  refine⟨(hB.own b _ hlb).1,?_⟩
  rcases hlabc' b _ hlb with h|h
  .exact .inl (Nat.le_trans hA.kept.size h)
  .obtain⟨k,i,ρ,_,e2⟩:=hMc b h
   exact(hA.own b _ e2).2
 .split at hb
  .cases hb
  .have:=hA.own b π hb
   exact⟨Nat.lt_of_lt_of_le this.1 hB.kept.size,this.2⟩):P:=h
theorem W2{P:Prop}(h:P:=by
 simp only[jS,jP]at h2
 obtain⟨rfl,rfl,rfl⟩:=h2
 exact⟨Iz,by simp⟩):P:=h
theorem iX{P:Prop}(h:P:=by
 split at h
 .simp only[jS,jP]at h
  obtain⟨rfl,rfl,rfl⟩:=h
  exact⟨(λk hk=>by cases hk),by simp⟩
 cases h):P:=h
theorem jz{P:Prop}(h:P:=by
 intro m u2 p x hm hv
 by_cases e:m=k
 .subst e;exact L1 hA hk (hself _) (by omega) hv
 .exact Fg hA (Bm _ _ e) rfl (λ_ _ _=>rfl) hv):P:=h
theorem kH{P:Prop}(h:P:=by exact hd [p.1] _ (by intro q hq;simp at hq;subst hq;exact(hA.fix p hp').1) p.1 (by simp)):P:=h
theorem kO{P:Prop}(h:P:=by
 intro n hn
 simp only[MG,chNames,mem_flatMap,mem_map]at hn
 obtain⟨_,⟨r,hr,rfl⟩,_,hc,hn⟩:=hn
 obtain⟨c1,hc1,rfl⟩:=mem_map.1 hc
 exact h2 c1 (λm hm=>h0 m (mem_flatMap.2 ⟨r,hr,mem_flatMap.2 ⟨c1,hc1,hm⟩⟩)) n hn):P:=h
theorem oQ{P:Prop}(h:P:=by
 rcases hb with hb|hb
 .exact hA.fzo b hb
 .rcases hB.fzo b hb with h|h|h
  .exact hA.fzo b h
  .exact .inr (.inl (Nat.le_trans hA.kept.size h))
  .obtain⟨k,i,ρ,_,e2⟩:=hMc b h
   exact .inr (hA.own b _ e2).2):P:=h
theorem p5{P:Prop}(h:P:=by
 split
 .exact⟨rfl,.any _ _ hone⟩
 exact r):P:=h
theorem p8{P:Prop}(h:P:=by exact hA.wf k2 _ hk m (mem_flatMap.2 ⟨r0,hr0,mem_flatMap.2 ⟨c0,hc0,h⟩⟩)):P:=h
theorem qK{P:Prop}(h:P:=by
 split at h
 .simp only[Ee]at h
  split at h
  .split at h
   .simp only[jS,jP]at h
    obtain⟨rfl,rfl,rfl⟩:=h
    exact⟨λk hk=>(by cases hk),by simp⟩
   cases h
  cases h
 cases h):P:=h
theorem r9{P:Prop}(h:P:=by
 intro b π hb
 simp only[labc]at hb
 split at hb
 .rename_i n ρ hlb
  split at hb
  .rename_i i hp'
   simp only[jS]at hb
   exact⟨n,i,ρ,FG hp',hlb,hb.symm⟩
  .cases hb
 .cases hb):P:=h
theorem y5{P:Prop}(h:P:=by
 simp only[rV,jS,jP]at h2
 obtain⟨rfl,rfl,rfl⟩:=h2
 exact⟨nil rfl,by simp⟩):P:=h
theorem AAK{P:Prop}(h:P:=by
 intro t g v ht
 rw[H8]at ht
 simp only[Nat.zero_le,if_true,Nat.sub_zero,map_eq_some_iff,jP]at ht
 obtain⟨u,hu,rfl,rfl⟩:=ht
 exact⟨rfl,hu⟩):P:=h
theorem AAT{P:Prop}(h:P:=by
 by_cases hdd:ch= .dead
 .exact Jz (by rw[hsame,hch,hdd]) hv'
 .exact Fg hA hsame (hdomI n hn') (λb ρ hb=>(hoth n hp' b ρ hb).2) hv'):P:=h
theorem AAX{P:Prop}(h:P:=by
 simp only[bind_eq_some_iff,rV,jS,jP]at h
 obtain⟨v,hv,rfl,rfl,rfl⟩:=h
 exact val λn hn=>by have:=L2 hv hn;rw[Ys]at this;cases this):P:=h
theorem AAY{P:Prop}(h:P:=by
 simp only[jS,jP]at h
 obtain⟨rfl,rfl,rfl⟩:=h
 obtain⟨r1,r2⟩:=WI hr λk hk=>hf k (by simp[hk])
 simp only[r1,r2]):P:=h
theorem AAf{P:Prop}(h:P:=by
 by_cases e:k=t
 .subst e;rw[BM]at hk;simp only[jS]at hk;subst hk;intro n hn;cases hn
 rw[Bm _ _ e]at hk;exact Bc (hA.wf k ch hk) _ _):P:=h
theorem AAj{P:Prop}(h:P:=by
 repeat' split at hm
 all_goals first|exact hm|(simp[C.names]at hm;done)|skip
 all_goals (simp only[C.names,not_mem_nil]at hm)):P:=h
theorem AAn{P:Prop}(h:P:=by
 split at h
 .simp only[rV,jS,jP]at h
  obtain⟨rfl,rfl,rfl⟩:=h
  exact val (sub h1 hc.1 (WH _ _))
 cases h):P:=h
theorem AAo{P:Prop}(h:P:=by
 split
 .cases r
 exact r):P:=h
theorem AAq{P:Prop}(h:P:=by simp only[hup];exact λt g v ht hg=>Bc (Bc (hW t g v ht hg) _ _) _ _):P:=h
theorem AAs{P:Prop}(h:P:=by
 intro ys
 induction ys with
 |nil=>intro i j E;rfl
 |cons y ys ih=>intro i j E;simp only[DV];exact ih _ _ _):P:=h
theorem AAu{P:Prop}(h:P:=by
 refine⟨y,y1,?_⟩
 cases p with
 |inl c=>exact scn hq y2
 |inr l=>obtain⟨arr,e1,e2⟩:=y2;exact⟨arr,e1,csn hq e2⟩):P:=h
theorem AAw{P:Prop}(h:P:=by rw[hup];exact⟨hA.n,hA.d,hA.e.mono hW h2,h1⟩):P:=h
theorem AAy{P:Prop}(h:P:=by
 intro ys
 induction ys with
 |nil=>intro i j E;rfl
 |cons y ys ih=>intro i j E;simp only[D7];exact ih _ _ _):P:=h
theorem AAz{P:Prop}(h:P:=by
 obtain⟨k,i,ρ,e1,e2,e3⟩:=hlcs b π hb
 exact⟨(hA.own b _ e2).1,.inr (by show (labc b).isSome=true;rw[hb];rfl)⟩):P:=h
theorem AA0{P:Prop}(h:P:=by
 rename_i x ho
 simp only[LQ,bind_eq_some_iff,rV,jS,jP]at h
 obtain⟨v,hv,rfl,rfl,rfl⟩:=h
 exact val (hW.rd hv hc)):P:=h
theorem AA6{P:Prop}(h:P:=by
 split at h
 .simp only[rV,jS,jP]at h
  obtain⟨rfl,rfl,rfl⟩:=h
  exact val (hW.rd h1 hc.1)
 cases h):P:=h
theorem AA7{P:Prop}(h:P:=by
 intro b hb hm
 obtain⟨k,i,ρ,_,e2⟩:=hMc b hm
 rcases (hA.own b _ e2).2 with h|h
 .omega
 .exact h):P:=h
theorem ABA{P:Prop}(h:P:=by
 simp only[bind_eq_some_iff,rV,jS,jP]at h
 obtain⟨cs,hf,rfl,rfl,rfl⟩:=h
 exact val (fin hr hc.1 hc.2 hf)):P:=h
theorem ABB{P:Prop}(h:P:=by
 simp only[bind_eq_some_iff,rV,jS,jP]at h
 obtain⟨s,hs,rfl,rfl,rfl⟩:=h
 exact val (eQ (by simp[hk]))):P:=h
variable{B α:Type}{k j u:Nat}{v:SV}{es:List (List C)}{σ:C->C}{fz':Nat->Prop}{I':Nm}{lab':Lab}{zn:List C}{y:Operand}{p:List (Nat×Nat)}
section
variable {P:Program}{o:Oper}{a:Act}{w w0:World}{X:Ctx}{I:Nm}{lab:Lab}{fz:Nat->Prop}{E E':Env}{H H':Hp}{c:Prop}{e:Eff}{fp:List Nat}
theorem L2{g:Option Bool}{n:Nat}{l:List C}(h:ldV g n l=some v)(hk:k∈v.names):k∈l.flatMap C.names:=by
 unfold ldV at h
 split at h
 .split at h
  .simp only[jS]at h;subst h
   obtain⟨c,h1,h2⟩:=mem_flatMap.1 hk
   exact mem_flatMap.2 ⟨c,List.mem_of_mem_take h1,h2⟩
  cases h
 .split at h
  .simp only[jS]at h;subst h
   exact mem_flatMap.2 ⟨_,mem_cons_self ..,hk⟩
  cases h
 cases h
theorem Sl(k u:Nat)(p:List (Nat×Nat))(i:Nat):∀(l:List C) (j n:Nat),n∈(ldc k u p i j l).flatMap C.names->n∈l.flatMap C.names∨n=k
 |[],j,n,h=>by simp[ldc]at h
 |c::r,j,n,h=>by
  have:(ldc k u p i j (c::r))=(match c with| .ov _ _=>.vw k u (p++[(i,j)])|c=>c)::ldc k u p i (j+1) r:=by cases c<;>rfl
  rw[this,flatMap_cons,List.mem_append]at h
  rcases h with h|h
  .cases c with
   |ov z es=>right;simpa [C.names] using h
   |_=>simp_all
  rcases Sl k u p i r (j+1) n h with h|h
  .simp_all
  exact .inr h
theorem KP{l:List C}{n:Nat}(h:n∈(l.drop j).flatMap C.names):n∈l.flatMap C.names:=by grind
theorem Ys(cs:List D):(cs.map oD).flatMap C.names=[]:=by
 rw[List.flatMap_eq_nil_iff]
 intro c hc
 obtain⟨d,_,rfl⟩:=mem_map.1 hc
 exact RT d
theorem vb(hA:AtW X w0 I lab fz H w){i:Nat}{z:List C}(hk:H k=some (.vec u z es))(hi:i<es.length):Dom H ((es.getD i z).flatMap C.names):=
 λn hn=>hA.wf k _ hk n (mem_flatMap.2 ⟨_,mem_of_getElem? (FT (d:=z) hi),hn⟩)
theorem WH(n:Nat)(c:C):∀k∈(ptrA n c).names,k∈c.names:=by
 cases c with
 |d x=>
  cases x with
  |pt o=>cases o<;>(intro k hk;exact hk)
  |_=>intro k hk;exact hk
 |_=>intro k hk;exact hk
theorem eQ(h:(H k).isSome=true):Dom H [k]:=by intro q hq;simp at hq;subst hq;exact h
theorem Iz{t:Nat}{ch:Ch}{r:List (Nat×Ch)}:Dom (updH H ((t,ch)::r)) [t]:=by
 have:Dom (upd H t ch) [t]:=by intro q hq;simp at hq;subst hq;simp[upd]
 exact GT r this
theorem vd(sp:List (Spec P X w0))(hW:WFE E H)(hA:AtW X w0 I lab fz H w)(h:opS sp o E H=some (c,e,fp))(hc:c):Dom (updH H e.upd) e.val.names/\∀p∈e.upd,p.1∈fp:=by
 have val:∀{v:SV},Dom H v.names->Dom (updH H (⟨v,[]⟩:Eff).upd) (⟨v,[]⟩:Eff).val.names/\∀p∈(⟨v,[]⟩:Eff).upd,p.1∈fp:=λhv=>⟨hv,by simp⟩
 have nil:∀{v:SV},v.names=[]->Dom H v.names:=by intro v hv;rw[hv];intro k hk;cases hk
 have sub:∀{x:Operand} {u:SV} {v:SV},rdv E x=some u->rdg E x=true->(∀k∈v.names,k∈u.names)->Dom H v.names:=λh1 h2 h3 k hk=>hW.rd h1 h2 k (h3 k hk)
 unfold opS at h
 split at h
 .exact AA0
 .exact AA0
 .simp only[Qe]at h
  split at h
  .exact P9
  cases h
 .obtain⟨f,h1,h2,rfl⟩:=Cm h
  simp only[Qg,bind_eq_some_iff,jS,jP]at h2
  obtain⟨z,hz,rfl,rfl,rfl⟩:=h2
  exact⟨Iz,by simp⟩
 .obtain⟨f,h1,h2,rfl⟩:=Cm h
  simp only[Tw,bind_eq_some_iff,jS,jP]at h2
  obtain⟨z,hz,rfl,rfl,rfl⟩:=h2
  exact⟨Iz,by simp⟩
 .rename_i T ps ho
  have fin:∀{place:Nat->Option (Nat×Nat)} {z:Value} {vs:List (Nat×SV)} {cs:List C},reads E ps.toList=some vs->KO E ps.toList->okV z=true->HP place (ofV z).cells vs=some cs->Dom H (cs.flatMap C.names):=by
   intro place z vs cs hr hg hok hf
   refine PY _ hf ?_ ?_
   .rw[Gk _ (Iy hok),HS hok];intro k hk;cases hk
   have:∀{xs:List (Nat×Operand)} {vs:List (Nat×SV)},reads E xs=some vs->KO E xs->∀v∈vs,Dom H v.2.names:=by
    intro xs
    induction xs with
    |nil=>intro vs h _;simp only[reads,jS]at h;subst h;simp
    |cons p xs ih=>
    intro vs h hg
    obtain⟨i,x⟩:=p
    simp only[reads]at h
    split at h
    .rename_i v l hv hl
     simp only[jS]at h
     subst h
     intro u hu
     rcases mem_cons.1 hu with rfl|hu
     .exact hW.rd hv hg.1
     exact ih hl hg.2 u hu
    cases h
   exact this hr hg
  simp only[Nn]at h
  split at h
  .rename_i pl z vs hpl hz hr
   exact ABA
  split at h
  .rename_i n e' z vs hT hz hr
   split at h
   .exact ABA
   cases h
  cases h
 .obtain⟨f,h1,h2,rfl⟩:=Cm h
  unfold RV at h2
  split at h2
  .obtain⟨f3,h3,rfl⟩:=Mf h2
   clear h2
   unfold U1 at h3
   revert h3;intro h2
   split at h2
   .split at h2
    .simp only[bind_eq_some_iff]at h2
     obtain⟨cs,hf,h2⟩:=h2
     split at h2
     .simp only[jS,jP]at h2
      obtain⟨rfl,rfl,rfl⟩:=h2
      exact⟨(λk hk=>by cases hk),by simp⟩
     cases h2
    cases h2
   cases h2
  obtain⟨f3,h3,rfl⟩:=Mf h2
  clear h2
  unfold I5 at h3
  revert h3;intro h2
  split at h2
  .split at h2
   .simp only[bind_eq_some_iff,jS,jP]at h2
    obtain⟨cs,hf,rfl,rfl,rfl⟩:=h2
    exact⟨Iz,by simp⟩
   cases h2
  cases h2
 .obtain⟨f,h1,h2,rfl⟩:=Cm h
  simp only[Ix]at h2
  split at h2
  .split at h2
   .exact W2
   cases h2
  cases h2
 .simp only[LR]at h
  split at h
  .split at h
   .rename_i u z es hk
    simp only[bind_eq_some_iff,rV,jS,jP]at h
    obtain⟨v,hv,rfl,rfl,rfl⟩:=h
    refine val λn hn=>?_
    rcases Sl _ _ _ _ _ _ n (L2 hv hn) with h1|rfl
    .exact vb hA hk hc.2 n (KP h1)
    simp[hk]
   cases h
  .exact AAX
  .exact AAX
  .split at h
   .rename_i u' z es hk
    split at h
    .rename_i z' es' hj
     simp only[bind_eq_some_iff,rV,jS,jP]at h
     obtain⟨v,hv,rfl,rfl,rfl⟩:=h
     obtain⟨_,_,_,hi,hm⟩:=hc
     refine val λn hn=>?_
     rcases Sl _ _ _ _ _ _ n (L2 hv hn) with h1|rfl
     .have h1:=KP h1
      obtain⟨c,g1,g2⟩:=mem_flatMap.1 h1
      obtain⟨hbv,_⟩:=Ig hA hk
      rw[kv _ hbv hi hj _ (mem_of_getElem? (FT (d:=z') hm)) c g1]at g2
      cases g2
     simp[hk]
    cases h
   cases h
  cases h
 .split at h
  .simp only[Jv]at h
   split at h
   .exact iX
   .split at h
    .exact iX
    cases h
   cases h
  cases h
 .simp only[Tx]at h
  split at h
  .split at h
   .split at h
    .rename_i r hr
     simp only[rV,jS,jP]at h
     obtain⟨rfl,rfl,rfl⟩:=h
     obtain⟨rc,rv⟩:=r
     exact val (nil (HS (bE hr)))
    split at h
    .exact P9
    cases h
   split at h
   .exact P9
   cases h
  cases h
 .simp only[Xp]at h
  split at h
  .simp only[bind_eq_some_iff,rV,jS,jP]at h
   obtain⟨r,hr,rfl,rfl,rfl⟩:=h
   unfold unV at hr
   split at hr<;>simp only[jS,reduceCtorEq]at hr<;>subst hr<;>exact val (nil rfl)
  cases h
 .simp only[Ft]at h
  split at h
  .rename_i cc fo ft h1 hf
   exact AAn
  cases h
 .simp only[Np]at h
  split at h
  .rename_i l fo ft h1 hf
   split at h
   .simp only[bind_eq_some_iff,rV,jS,jP]at h
    obtain⟨v,hv,rfl,rfl,rfl⟩:=h
    exact val (sub h1 hc λk hk=>KP (L2 hv hk))
   cases h
  cases h
 .simp only[Fv]at h
  split at h
  .rename_i k kk n h1 h2
   split at h
   .rename_i u z es e' hk he
    exact ABB
   cases h
  .simp only[bind_eq_some_iff,rV,jS,jP]at h
   obtain⟨e',he,s,hs,rfl,rfl,rfl⟩:=h
   exact val (nil rfl)
  .simp only[bind_eq_some_iff,rV,jS,jP]at h
   obtain⟨e',he,s,hs,rfl,rfl,rfl⟩:=h
   exact val (nil rfl)
  .split at h
   .rename_i u' z es e' hk he
    split at h
    .exact ABB
    cases h
   cases h
  .rename_i cc kk n _ _ _ _ h1 h2
   split at h
   .exact AAn
   cases h
  cases h
 .simp only[Nq]at h
  split at h
  .split at h
   .exact P9
   cases h
  .rename_i l kk n h1 h2
   simp only[bind_eq_some_iff,rV,jS,jP]at h
   obtain⟨ae,hae,s,hs,v,hv,rfl,rfl,rfl⟩:=h
   exact val (sub h1 hc.1 λk hk=>KP (L2 hv hk))
  cases h
 .obtain⟨f,g1,h2,rfl⟩:=Cm h
  simp only[Jw]at h2
  split at h2
  .split at h2
   .split at h2
    .exact y5
    cases h2
   cases h2
  .split at h2
   .split at h2
    .exact y5
    split at h2
    .exact y5
    cases h2
   cases h2
  .split at h2
   .split at h2
    .exact W2
    cases h2
   cases h2
  cases h2
 .simp only[Ky]at h
  split at h
  .rename_i l h1
   split at h
   .rename_i cc hcc
    simp only[rV,jS,jP]at h
    obtain⟨rfl,rfl,rfl⟩:=h
    exact val (sub h1 hc λk hk=>mem_flatMap.2 ⟨_,mem_of_getElem? hcc,hk⟩)
   .rename_i cs hcs
    simp only[rV,jS,jP]at h
    obtain⟨rfl,rfl,rfl⟩:=h
    exact val (sub h1 hc λk hk=>mem_flatMap.2 ⟨_,mem_of_getElem? hcs,hk⟩)
   cases h
  cases h
 .split at h
  .rename_i r hr
   simp only[jS]at h
   subst h
   simp only[L0]at hr
   split at hr
   .simp only[rV,jS,jP]at hr
    obtain⟨rfl,rfl,rfl⟩:=hr
    exact val (nil rfl)
   cases hr
  simp only[Jx]at h
  split at h
  .split at h
   .simp only[bind_eq_some_iff,rV,jS,jP]at h
    obtain⟨ns,hns,rfl,rfl,rfl⟩:=h
    exact val (nil rfl)
   cases h
  cases h
 .simp only[N7]at h
  split at h
  .rename_i k i j h1
   exact AA6
  .rename_i k u p s m o' h1
   exact AA6
  .rename_i cc _ _ h1
   split at h
   .simp only[rV,jS,jP]at h
    obtain⟨rfl,rfl,rfl⟩:=h
    exact val (hW.rd h1 hc)
   cases h
  cases h
 .simp only[Ns]at h
  split at h
  .simp only[jS,jP]at h
   obtain⟨rfl,rfl,rfl⟩:=h
   exact val (nil rfl)
  cases h
 .obtain⟨fp',g1,h2,rfl⟩:=Cm h
  simp only[Mb]at h2
  split at h2
  .split at h2
   .exact W2
   cases h2
  cases h2
 .rename_i T x ix ok ho
  simp only[Ie]at h
  split at h
  .rename_i cc key kt et h1 h2 hT
   split at h
   .rename_i z ag ag' es f hk hz hag hm
    simp only[rV,jS,jP]at h
    obtain⟨rfl,rfl,rfl⟩:=h
    have hrow:∀row,AH es key.toList=some row->Dom H (row.flatMap C.names):=by
     intro row hrow n hn
     have hmem:∃p∈es,p.2=row:=by
      have:∀{l:List (List UInt8×List C)},AH l key.toList=some row->∃p∈l,p.2=row:=by
       intro l
       induction l with
       |nil=>intro h;cases h
       |cons q l ih=>
       intro h
       obtain⟨k',x⟩:=q
       simp only[AH]at h
       split at h
       .simp_all
       simp_all
      exact this hrow
     obtain⟨p,hp1,rfl⟩:=hmem
     unfold RR at hm
     split at hm
     .rename_i k
      split at hm
      .rename_i ag2 es2 hk2
       simp only[jS,jP]at hm
       obtain⟨_,rfl,_⟩:=hm
       exact hA.wf k _ hk2 n (mem_flatMap.2 ⟨p,hp1,hn⟩)
      cases hm
     .simp only[jS,jP]at hm
      obtain⟨_,rfl,_⟩:=hm
      obtain⟨q,_,rfl⟩:=mem_map.1 hp1
      cases hn
     .simp_all
     cases hm
    have hall:Dom H (((AH es key.toList).getD (ofV z).cells).flatMap C.names):=by
     cases hg:AH es key.toList with
     |some row=>simp_all
     |none=>rw[getD_none,Gk _ (Iy hc.2.2.1),HS hc.2.2.1];intro k hk;cases hk
    generalize (AH es key.toList).getD (ofV z).cells=row at hall
    have hhead:Dom H (ZT row).names:=by
     intro n hn
     cases row with
     |nil=>cases hn
     |cons c r=>exact hall n (mem_flatMap.2 ⟨c,mem_cons_self ..,hn⟩)
    refine val ?_
    cases ag<;>cases ok
    .exact hhead
    .intro n hn
     simp only[lkV,SV.names,flatMap_cons,List.flatMap_nil,pNames,C.names,append_nil]at hn
     exact hhead n hn
    .exact hall
    intro n hn
    simp only[lkV,SV.names,flatMap_cons,List.flatMap_nil,pNames,C.names,append_nil]at hn
    exact hall n hn
   cases h
  cases h
 .exact qK
 .exact qK
 .rename_i fn first caps ho
  split at h
  .simp only[Jy,bind_eq_some_iff,rV,jS,jP]at h
   obtain⟨vs,hv,cs,hcs,rfl,rfl,rfl⟩:=h
   have hdv:∀{xs:List Operand} {vs:List SV},GN E xs=some vs->FS E xs->∀v∈vs,Dom H v.names:=by
    intro xs
    induction xs with
    |nil=>intro vs h _;simp only[GN,jS]at h;subst h;simp
    |cons x xs ih=>
    intro vs h hg
    simp only[GN]at h
    split at h
    .rename_i v l hv hl
     simp only[jS]at h
     subst h
     intro u hu
     rcases mem_cons.1 hu with rfl|hu
     .exact hW.rd hv hg.1
     exact ih hl hg.2 u hu
    cases h
   have hd2:=hdv hv hc.1
   rw[V3 hcs]at hd2
   refine val ?_
   intro n hn
   have hn2:n∈cs.flatMap capN:=by simpa [SV.names,C.names] using hn
   obtain⟨cc,hcc,hn3⟩:=mem_flatMap.1 hn2
   refine hd2 (.one cc) (mem_map.2 ⟨cc,hcc,rfl⟩) n ?_
   cases cc<;>first|exact hn3|cases hn3
  cases h
 .obtain⟨fp',g1,h2,rfl⟩:=Cm h
  simp only[K1]at h2
  split at h2
  .simp only[jS,jP]at h2
   obtain⟨rfl,rfl,rfl⟩:=h2
   exact⟨λk hk=>(by cases hk),by simp⟩
  cases h2
 .have call:∀{f:FuncId} {args:List Operand} {more:List SV} {t:Nat} {c:Prop} {e:Eff} {fp:List Nat},H t=none->(∀v∈more,Dom H v.names)->Im sp E H f args more t=some (c,e,fp)->c->Dom (updH H e.upd) e.val.names/\∀p∈e.upd,p.1∈fp:=by
   intro f args more t c e fp ht hm h hc
   simp only[Im]at h
   split at h
   .rename_i s vs hs hr
    simp only[map_eq_some_iff,jP]at h
    obtain⟨⟨c',r⟩,hfn,rfl,h2⟩:=h
    simp only at h2
    subst h2
    refine s.dom _ _ _ _ _ _ ht hc.2 hfn λv hv=>?_
    rcases List.mem_append.1 hv with hv|hv
    .have:∀{xs:List Operand} {vs:List SV},GN E xs=some vs->FS E xs->∀v∈vs,Dom H v.names:=by
      intro xs
      induction xs with
      |nil=>intro vs h _;simp only[GN,jS]at h;subst h;simp
      |cons x xs ih=>
      intro vs h hg
      simp only[GN]at h
      split at h
      .rename_i v l hv hl
       simp only[jS]at h
       subst h
       intro u hu
       rcases mem_cons.1 hu with rfl|hu
       .exact hW.rd hv hg.1
       exact ih hl hg.2 u hu
      cases h
     exact this hr hc.1 v hv
    exact hm v hv
   cases h
  rename_i cl ho
  obtain⟨ce,args,ts⟩:=cl
  split at h
  .split at h
   .obtain⟨f,g1,h2,rfl⟩:=Cm h
    simp only[Ib]at h2
    split at h2
    .split at h2
     .split at h2
      .split at h2
       .exact W2
       .exact W2
       .split at h2
        .exact W2
        cases h2
       .split at h2
        .split at h2
         .exact W2
         cases h2
        cases h2
       cases h2
      cases h2
     cases h2
    cases h2
   .simp only[LU]at h
    split at h
    .split at h
     .exact iX
     cases h
    cases h
   simp only[HQ]at h
   split at h
   .exact P9
   .exact P9
   .exact P9
   .exact P9
   .split at h
    .split at h
     .exact P9
     cases h
    cases h
   .split at h
    .split at h
     .exact P9
     cases h
    cases h
   cases h
  .obtain⟨f,g1,h2,rfl⟩:=Cm h
   obtain⟨q1,q2⟩:=call g1 (by simp) h2 hc
   exact⟨q1,λp hp'=>mem_cons_of_mem _ (q2 p hp')⟩
  .rename_i s _
   obtain⟨f,g1,h2,rfl⟩:=Cm h
   unfold K0 at h2
   split at h2
   .rename_i f' caps hf
    simp only[map_eq_some_iff,jP]at h2
    obtain⟨⟨c',r⟩,h1,rfl,h2⟩:=h2
    simp only at h2
    subst h2
    have hcaps:∀v∈caps,Dom H v.names:=by
     unfold fnSV at hf
     split at hf
     .split at hf
      .simp only[jS,jP]at hf;obtain⟨_,rfl⟩:=hf;simp
      cases hf
     .rename_i f2 cs hv
      split at hf
      .rename_i hok
       simp only[jS,jP]at hf
       obtain⟨rfl,rfl⟩:=hf
       intro v hv2
       obtain⟨cc,g1,rfl⟩:=mem_map.1 hv2
       intro n hn
       refine hW.rd hv hc.1 n (mem_flatMap.2 ⟨cc,g1,?_⟩)
       have:=all_eq_true.1 hok cc g1
       cases cc<;>first|exact hn|(simp[Tz]at this)
      cases hf
     cases hf
    obtain⟨q1,q2⟩:=call g1 hcaps h1 hc.2
    exact⟨q1,λp hp'=>mem_cons_of_mem _ (q2 p hp')⟩
   cases h2
  cases h
 cases h
end
open Go.RowKit
section
variable {P:Program}{o:Oper}{E E':Env}{H H':Hp}{c:Prop}{e:Eff}{fp:List Nat}
theorem pB{T:TypeId}{x:Operand}(h:LR P E H T x=some (c,e,fp))(hf:∀k∈fp,H' k=H k):LR P E H' T x=some (c,e,fp):=by
 unfold LR at*
 split at h
 .rename_i k i j n h1 hn
  split at h
  .rename_i u z es hk
   simp only[bind_eq_some_iff,rV,jS,jP]at h
   obtain⟨v,hv,rfl,rfl,rfl⟩:=h
   have hk':=(hf k (by simp)).trans hk
   simp only[hk',hv,Option.bind_some,rV]
  cases h
 .exact h
 .exact h
 .rename_i k u p s m o n h1 hn
  split at h
  .rename_i u z es hk
   split at h
   .rename_i z' es' hj
    simp only[bind_eq_some_iff,rV,jS,jP]at h
    obtain⟨v,hv,rfl,rfl,rfl⟩:=h
    have hk':=(hf k (by simp)).trans hk
    simp only[hk',hj,hv,Option.bind_some,rV]
   cases h
  cases h
 cases h
theorem lB{T:TypeId}{x:Operand}(h:Jv P E H T x y=some (c,e,fp))(hf:∀k∈fp,H' k=H k):Jv P E H' T x y=some (c,e,fp):=by
 unfold Jv at*
 split at h
 .grind
 .grind
 cases h
theorem bT{cc:C}{g:Prop}(h:RQ H cc=some (g,fp))(hf:∀k∈fp,H' k=H k):RQ H' cc=some (g,fp):=by
 unfold RQ at*
 split at h
 .grind
 .grind
 .exact h
 .exact h
 cases h
theorem Z4{T:TypeId}{x:Operand}{f:Nat}(h:Ft P E H T x f=some (c,e,fp))(hf:∀k∈fp,H' k=H k):Ft P E H' T x f=some (c,e,fp):=by
 unfold Ft at*
 split at h
 .split at h
  .rename_i n g fp' hn hg
   simp only[rV,jS,jP]at h
   obtain⟨rfl,rfl,rfl⟩:=h
   simp only[hn,bT hg hf,rV]
  cases h
 cases h
theorem Z5{T:TypeId}{x i:Operand}(h:Fv P E H T x i=some (c,e,fp))(hf:∀k∈fp,H' k=H k):Fv P E H' T x i=some (c,e,fp):=by
 unfold Fv at*
 split at h
 .rename_i k kk n h1 h2
  split at h
  .rename_i u z es e' hk he
   simp only[bind_eq_some_iff,rV,jS,jP]at h
   obtain⟨s,hs,rfl,rfl,rfl⟩:=h
   have hk':=(hf k (by simp)).trans hk
   simp only[hk',he,hs,Option.bind_some,rV]
  cases h
 .exact h
 .exact h
 .rename_i k u p kk n h1 h2
  split at h
  .rename_i u' z es e' hk he
   split at h
   .rename_i z' es' hj
    simp only[bind_eq_some_iff,rV,jS,jP]at h
    obtain⟨s,hs,rfl,rfl,rfl⟩:=h
    have hk':=(hf k (by simp)).trans hk
    simp only[hk',he,hj,hs,Option.bind_some,rV]
   cases h
  cases h
 .split at h
  .rename_i ae hae
   split at h
   .rename_i s g fp' hs hg
    simp only[rV,jS,jP]at h
    obtain⟨rfl,rfl,rfl⟩:=h
    simp only[hs,bT hg hf,rV]
   cases h
  cases h
 cases h
theorem lC{T:TypeId}{x:Operand}{lo hi mx:Option Operand}{t:Nat}(h:Jw P E H T x lo hi mx t=some (c,e,fp))(hf:∀k∈fp,H' k=H k):Jw P E H' T x lo hi mx t=some (c,e,fp):=by
 unfold Jw at*
 split at h
 .exact h
 .exact h
 .grind
 cases h
theorem ve{x:Operand}(h:N7 E H x=some (c,e,fp))(hf:∀k∈fp,H' k=H k):N7 E H' x=some (c,e,fp):=by
 unfold N7 at*
 split at h
 .rename_i k i j h1
  split at h
  .rename_i u z es hk
   simp only[rV,jS,jP]at h
   obtain⟨rfl,rfl,rfl⟩:=h
   have hk':=(hf k (by simp)).trans hk
   simp only[hk',rV]
  cases h
 .rename_i k u p s m o' h1
  split at h
  .rename_i g fp' hg
   simp only[rV,jS,jP]at h
   obtain⟨rfl,rfl,rfl⟩:=h
   have hg':=bT hg hf
   simp only[hg',rV]
  cases h
 .exact h
 cases h
theorem lD{X:Ctx}{x:Operand}{t:Nat}(h:K1 X E H x t=some (c,e,fp))(hf:∀k∈fp,H' k=H k):K1 X E H' x t=some (c,e,fp):=by
 unfold K1 at*
 split at h
 .rename_i T y h1
  simp only[jS,jP]at h
  obtain⟨rfl,rfl,rfl⟩:=h
  simp only[Sd hf]
 cases h
theorem gj{T:TypeId}{x ix:Operand}{ok:Bool}(h:Ie P E H T x ix ok=some (c,e,fp))(hf:∀k∈fp,H' k=H k):Ie P E H' T x ix ok=some (c,e,fp):=by
 unfold Ie at*
 split at h
 .rename_i cc key kt et h1 h2 hT
  split at h
  .rename_i z ag ag' es f hk hz hag hm
   have hm':RR H' cc=some (ag',es,f):=by
    simp only[rV,jS,jP]at h
    obtain⟨_,_,rfl⟩:=h
    unfold RR at hm ⊢
    split at hm
    .grind
    .exact hm
    .exact hm
    cases hm
   simp only[hk,hz,hag,hm']
   exact h
  cases h
 cases h
theorem S7{T:TypeId}{x k v:Operand}(h:Ee P E H T x k v=some (c,e,fp))(hf:∀k∈fp,H' k=H k):Ee P E H' T x k v=some (c,e,fp):=by
 unfold Ee at*
 exact AAh
theorem A0e{cc:C}{p:Prop}{n:Int}(h:Uv H cc=some (p,n,fp))(hf:∀k∈fp,H' k=H k):Uv H' cc=some (p,n,fp):=by
 unfold Uv at*
 split at h
 .exact h
 .exact h
 .exact h
 .grind
 .grind
 cases h
theorem cm{b:Builtin}{args:List Operand}{ts:List TypeId}(h:HQ P E H b args ts=some (c,e,fp))(hf:∀k∈fp,H' k=H k):HQ P E H' b args ts=some (c,e,fp):=by
 unfold HQ at*
 split at h
 .exact h
 .exact h
 .exact h
 .exact h
 .exact h
 .split at h
  .split at h
   .rename_i el p n f hT hl
    simp only[rV,jS,jP]at h
    obtain⟨rfl,rfl,rfl⟩:=h
    simp only[hT,A0e hl hf,rV]
   cases h
  cases h
 cases h
theorem bU{z:List C}{b:C}{rows:List (List C)}{f:List Nat}(h:Jf H z b=some (rows,f))(hf:∀k∈f,H' k=H k):Jf H' z b=some (rows,f)/\KC H' b=KC H b:=by
 unfold Jf at*
 split at h
 .exact⟨h,rfl⟩
 .exact⟨h,rfl⟩
 .exact⟨h,rfl⟩
 .rename_i k
  split at h
  .rename_i u z' es hk
   simp only[jS,jP]at h
   obtain⟨rfl,rfl⟩:=h
   have hk':=(hf k (by simp)).trans hk
   simp only[hk',KC,hk,and_self]
  cases h
 cases h
theorem WI{z:List C}{b:C}{rows:List (List C)}{f:List Nat}(h:Lv H z b=some (rows,f))(hf:∀k∈f,H' k=H k):Lv H' z b=some (rows,f)/\Ke H' b=Ke H b:=by
 by_cases hst2:∃st,b= .v (.string st)
 .obtain⟨st,rfl⟩:=hst2;exact⟨h,rfl⟩
 have h1:∀H,Lv H z b=Jf H z b:=by
  intro H
  exact fQ
 have h2:∀H,Ke H b=KC H b:=by
  intro H
  exact fQ
 rw[h1]at h
 rw[h1,h2,h2]
 exact bU h hf
theorem A0f{T:TypeId}{n:Nat}{ps:List (Nat×Operand)}{t:Nat}(h:RV P E H T n ps t=some (c,e,fp))(hf:∀k∈fp,H' k=H k):RV P E H' T n ps t=some (c,e,fp):=by
 unfold RV at*
 have hk:H' (JD t)=H (JD t):=by
  split at h
  all_goals
   obtain⟨f,_,rfl⟩:=Mf h
   exact hf _ (mem_cons_self ..)
 have:flB H' (JD t)=flB H (JD t):=by unfold flB;rw[hk]
 rw[this];exact h
theorem pC{x:Operand}{T U:TypeId}(h:LU P E H x y T U=some (c,e,fp))(hf:∀k∈fp,H' k=H k):LU P E H' x y T U=some (c,e,fp):=by
 unfold LU at*
 split at h
 .rename_i k b e' e2 h1 h2 he he2
  split at h
  .rename_i u z es s hk hs
   split at h
   .rename_i rows f hr
    simp only[jS,jP]at h
    obtain⟨rfl,rfl,rfl⟩:=h
    have hk':=(hf k (by simp)).trans hk
    obtain⟨r1,r2⟩:=bU hr (λj hj=>hf j (by simp[hj]))
    simp only[hk',hs,r1,r2]
   cases h
  cases h
 cases h
theorem gk{x:Operand}{T U:TypeId}{t:Nat}(h:Ib P E H x y T U t=some (c,e,fp))(hf:∀k∈fp,H' k=H k):Ib P E H' x y T U t=some (c,e,fp):=by
 unfold Ib at*
 split at h
 .split at h
  .split at h
   .rename_i rows f2 hr
    split at h
    .exact AAY
    .exact AAY
    .rename_i k hx
     split at h
     .rename_i u z' es hk
      simp only[jS,jP]at h
      obtain⟨rfl,rfl,rfl⟩:=h
      obtain⟨r1,r2⟩:=WI hr λk hk=>hf k (by simp[hk])
      have hk':=(hf k (by simp)).trans hk
      simp only[r1,r2,hk']
     cases h
    .rename_i k u p hx
     split at h
     .rename_i u' zz es hk
      split at h
      .rename_i z' es' hj
       simp only[jS,jP]at h
       obtain⟨rfl,rfl,rfl⟩:=h
       obtain⟨r1,r2⟩:=WI hr λk hk=>hf k (by simp[hk])
       have hk':=(hf k (by simp)).trans hk
       simp only[r1,r2,hk',hj]
      cases h
     cases h
    cases h
   cases h
  cases h
 cases h
theorem bV{X:Ctx}{w0:World}{sp:List (Spec P X w0)}{f:FuncId}{args:List Operand}{more:List SV}{t:Nat}(h:Im sp E H f args more t=some (c,e,fp))(hf:∀k∈fp,H' k=H k):Im sp E H' f args more t=some (c,e,fp):=by
 unfold Im at*
 split at h
 .rename_i s vs hs hr
  simp only[map_eq_some_iff,jP]at h
  obtain⟨⟨c',e',fp'⟩,hfn,h1,h2⟩:=h
  simp only[jP]at h2
  obtain⟨rfl,rfl⟩:=h2
  have:=s.loc t (vs++more) H H' c' _ _ hfn hf
  simp only[this,map_some,h1]
 cases h
theorem lE{X:Ctx}{w0:World}{sp:List (Spec P X w0)}{s:Nat}{args:List Operand}{t:Nat}(h:K0 sp E H s args t=some (c,e,fp))(hf:∀k∈fp,H' k=H k):K0 sp E H' s args t=some (c,e,fp):=by
 unfold K0 at*
 split at h
 .simp only[map_eq_some_iff,jP]at h
  obtain⟨⟨c',e',fp'⟩,hfn,h1,h2⟩:=h
  simp only[jP]at h2
  obtain⟨rfl,rfl⟩:=h2
  simp only[bV hfn hf,map_some,h1]
 cases h
theorem J0{d:Option Nat}{f f':Nat->Res}(h:fresh H d f=some (c,e,fp))(hf:∀k∈fp,H' k=H k)(hff:∀{fp'},f (d.getD 999999)=some (c,e,fp')->(∀k∈fp',H' k=H k)->f' (d.getD 999999)=some (c,e,fp')):fresh H' d f'=some (c,e,fp):=by
 obtain⟨fp',h1,h2,rfl⟩:=Cm h
 have h3:H' (d.getD 999999)=none:=(hf _ (mem_cons_self ..)).trans h1
 unfold fresh
 rw[h3]
 simp only[hff h2 λk hk=>hf k (mem_cons_of_mem _ hk),map_some]
theorem lF{s d:TypeId}{x:Operand}(h:Jx P E H s d x=some (c,e,fp))(hf:∀k∈fp,H' k=H k):Jx P E H' s d x=some (c,e,fp):=by
 unfold Jx at*
 split at h
 .rename_i cc e' h1 h2 h3
  split at h
  .rename_i rows f hu hr
   simp only[bind_eq_some_iff,rV,jS,jP]at h
   obtain⟨ns,hns,rfl,rfl,rfl⟩:=h
   obtain⟨r1,r2⟩:=bU hr hf
   simp only[hu,r1,r2,hns,Option.bind_some,rV]
  cases h
 cases h
theorem A56{X:Ctx}{w0:World}{sp:List (Spec P X w0)}(h:opS sp o E H=some (c,e,fp))(hf:∀k∈fp,H' k=H k):opS sp o E H'=some (c,e,fp):=by
 unfold opS at*
 split at h
 .exact h
 .exact h
 .exact h
 .exact J0 h hf λh _=>h
 .exact J0 h hf λh _=>h
 .exact h
 .exact J0 h hf λh hf=>A0f h hf
 .exact J0 h hf λh _=>h
 .exact pB h hf
 .split at h
  .exact lB h hf
  cases h
 .exact h
 .exact h
 .exact Z4 h hf
 .exact h
 .exact Z5 h hf
 .exact h
 .exact J0 h hf λh hf=>lC h hf
 .exact h
 .split at h
  .exact h
  exact lF h hf
 .exact ve h hf
 .exact h
 .exact J0 h hf λh _=>h
 .exact gj h hf
 .split at h
  .exact S7 h hf
  cases h
 .split at h
  .exact S7 h hf
  cases h
 .exact h
 .exact J0 h hf λh hf=>lD h hf
 .split at h
  .split at h
   .exact J0 h hf λh hf=>gk h hf
   .exact pC h hf
   exact cm h hf
  .exact J0 h hf λh hf=>bV h hf
  .exact J0 h hf λh hf=>lE h hf
  cases h
 cases h
theorem PZ:∀{ps:List (Nat×Operand)},(∀p∈ps,rdv E' p.2=rdv E p.2/\rdg E' p.2=rdg E p.2)->reads E' ps=reads E ps/\KO E' ps=KO E ps
 |[],_=>⟨rfl,rfl⟩
 |(i,x)::ps,h=>by
  have h0:=h (i,x) (mem_cons_self ..)
  have ih:=PZ (ps:=ps) λp hp=>h p (mem_cons_of_mem _ hp)
  simp only[reads,KO,h0.1,h0.2,ih.1,ih.2,and_self]
theorem Pa:∀{ps:List Operand},(∀p∈ps,rdv E' p=rdv E p/\rdg E' p=rdg E p)->GN E' ps=GN E ps/\FS E' ps=FS E ps
 |[],_=>⟨rfl,rfl⟩
 |x::ps,h=>by
  have h0:=h x (mem_cons_self ..)
  have ih:=Pa (ps:=ps) λp hp=>h p (mem_cons_of_mem _ hp)
  simp only[GN,FS,h0.1,h0.2,ih.1,ih.2,and_self]
theorem Pb{x:Option Operand}(h:∀p,x=some p->rdv E' p=rdv E p/\rdg E' p=rdg E p):Ia E' x=Ia E x/\HO E' x=HO E x:=by
 cases x with
 |none=>exact⟨rfl,rfl⟩
 |some p=>simp only[Ia,HO,(h p rfl).1,(h p rfl).2,and_self]
theorem A57{X:Ctx}{w0:World}{sp:List (Spec P X w0)}(hr:∀x∈o.op.operands,rdv E' x=rdv E x/\rdg E' x=rdg E x):opS sp o E' H=opS sp o E H:=by
 obtain⟨dst,op,type,pos,after,guard⟩:=o
 cases op<;>simp only[opS,Op.operands]at hr ⊢
 case move x=>have h1:=hr x (by simp);simp only[LQ,h1.1,h1.2]
 case assign x=>have h1:=hr x (by simp);simp only[LQ,h1.1,h1.2]
 case pick x y z=>
  have h1:=hr x (by simp);have h2:=hr y (by simp);have h3:=hr z (by simp)
  simp only[Qe,h1.1,h1.2,h2.1,h2.2,h3.1,h3.2]
 case box T x=>have h1:=hr x (by simp);simp only[Tw,h1.1,h1.2]
 case build T ps=>
  have h1:=PZ (E:=E) (E':=E') (ps:=ps.toList) λp hp=>hr p.2 (by simp;exact⟨p.1,by simpa using hp⟩)
  simp only[Nn,h1.1,h1.2]
 case buildSlice T n ps=>
  have h1:=PZ (E:=E) (E':=E') (ps:=ps.toList) λp hp=>hr p.2 (by simp;exact⟨p.1,by simpa using hp⟩)
  simp only[RV,U1,I5,h1.1,h1.2]
 case makeSlice T x y=>have h1:=hr x (by simp);have h2:=hr y (by simp);simp only[Ix,h1.1,h1.2,h2.1,h2.2]
 case load T x=>have h1:=hr x (by simp);simp only[LR,h1.1,h1.2]
 case store T x y=>have h1:=hr x (by simp);have h2:=hr y (by simp);simp only[Jv,h1.1,h1.2,h2.1,h2.2]
 case binOp op T x y T'=>have h1:=hr x (by simp);have h2:=hr y (by simp);simp only[Tx,h1.1,h1.2,h2.1,h2.2]
 case unOp op T x=>have h1:=hr x (by simp);simp only[Xp,h1.1,h1.2]
 case fieldAddr T x f=>have h1:=hr x (by simp);simp only[Ft,h1.1,h1.2]
 case field T x f=>have h1:=hr x (by simp);simp only[Np,h1.1,h1.2]
 case indexAddr T x y=>have h1:=hr x (by simp);have h2:=hr y (by simp);simp only[Fv,h1.1,h1.2,h2.1,h2.2]
 case index T x y=>have h1:=hr x (by simp);have h2:=hr y (by simp);simp only[Nq,h1.1,h1.2,h2.1,h2.2]
 case slice T x lo hi mx=>
  have h1:=hr x (by simp)
  have h2:=Pb (E:=E) (E':=E') (x:=lo) λp hp=>hr p (by simp[hp])
  have h3:=Pb (E:=E) (E':=E') (x:=hi) λp hp=>hr p (by simp[hp])
  have h4:=Pb (E:=E) (E':=E') (x:=mx) λp hp=>hr p (by simp[hp])
  simp only[Jw,h1.1,h1.2,h2.1,h2.2,h3.1,h3.2,h4.1,h4.2]
 case extract x i=>have h1:=hr x (by simp);simp only[Ky,h1.1,h1.2]
 case convert s d x=>have h1:=hr x (by simp);simp only[L0,Jx,h1.1,h1.2]
 case nilCheck x=>have h1:=hr x (by simp);simp only[N7,h1.1,h1.2]
 case makeInterface T x=>have h1:=hr x (by simp);simp only[Ns,h1.1,h1.2]
 case panic x=>have h1:=hr x (by simp);simp only[K1,h1.1,h1.2]
 case makeMap T r=>cases r<;>rfl
 case lookup T x i ok=>have h1:=hr x (by simp);have h2:=hr i (by simp);simp only[Ie,h1.1,h1.2,h2.1,h2.2]
 case mapUpdate T m k v=>have h1:=hr m (by simp);have h2:=hr k (by simp);have h3:=hr v (by simp);simp only[Ee,h1.1,h1.2,h2.1,h2.2,h3.1,h3.2]
 case insert T m k v=>have h1:=hr m (by simp);have h2:=hr k (by simp);have h3:=hr v (by simp);simp only[Ee,h1.1,h1.2,h2.1,h2.2,h3.1,h3.2]
 case makeFunc fn first caps=>
  have hargs:=Pa (E:=E) (E':=E') (ps:=caps.toList) λp hp=>hr p (by simp;exact .inr (by simpa using hp))
  simp only[Jy,hargs.1,hargs.2]
 case call cl=>
  obtain⟨ce,args,ts⟩:=cl
  have hargs:=Pa (E:=E) (E':=E') (ps:=args.toList) λp hp=>hr p (by simp[Call.operands];exact .inr (by simpa using hp))
  cases ce with
  |builtin b=>
   simp only
   split
   .rename_i x y T U h1 h2
    have hx:=hr x (by simp[Call.operands];rw[<- mem_toList_iff,h1];simp)
    have hy:=hr y (by simp[Call.operands];rw[<- mem_toList_iff,h1];simp)
    simp only[Ib,hx.1,hx.2,hy.1,hy.2]
   .rename_i x y T U h1 h2
    have hx:=hr x (by simp[Call.operands];rw[<- mem_toList_iff,h1];simp)
    have hy:=hr y (by simp[Call.operands];rw[<- mem_toList_iff,h1];simp)
    simp only[LU,hx.1,hx.2,hy.1,hy.2]
   simp only[HQ,hargs.1,hargs.2]
  |invoke r m=>rfl
  |value f=>
  cases f with
  |func f=>simp only[Im,hargs.1,hargs.2]
  |tmp t=>
   have h0:=hr (.tmp t) (by simp[Call.operands])
   simp only[K0,Im,hargs.1,hargs.2,h0.1,h0.2]
  |_=>rfl
end
open Go.RowKit
def guardOf(ops:Array Oper)(o:Oper)(E:Env):Option Bool:=
 match o.guard with
 |none=>some true
 |some (j,want)=>
  match (ops[j]?).bind (·.dst) with
  |some t=>match E t with
   |some (g,.one (.v (.bool b)))=>some (g&&(if want then b else !b))
   |_=>none
  |none=>none
structure Wr where
 slot:Option (Nat×Bool×SV)
 us:List (Nat×Ch)
abbrev pD:SV:=.one (.v (.bool false))
def slotOf(d:Option Nat)(g:Bool)(v:SV):Option (Nat×Bool×SV):=
 match d with
 |some t=>some (t,g,v)
 |none=>none
def ZV(n:Nat):Option Nat->Bool
 |some t=>decide (t<n)
 |none=>true
def V4:List (Nat×Value)->Nat->Option Nat->Bool
 |[],n,d=>ZV n d
 |p::kp,n,d=>(match d with|some t=>!(p.1==t)|none=>true)&&V4 kp n d
theorem eR:∀{kp:List (Nat×Value)} {n:Nat} {d:Option Nat},V4 kp n d=true->ZV n d=true
 |[],_,_,h=>h
 |_::_,_,_,h=>eR (Bool.and_eq_true_iff.1 h).2
theorem eS:∀{kp:List (Nat×Value)} {n t:Nat},V4 kp n (some t)=true->∀p∈kp,p.1≠t
 |[],_,_,_,_,h=>by cases h
 |q::kp,_,t,h,p,hp=>by
  obtain⟨h1,h2⟩:=Bool.and_eq_true_iff.1 h
  rcases mem_cons.1 hp with rfl|hp
  .simpa using h1
  exact eS h2 p hp
def guarded(d:Option Nat)(g:Bool):Res->Option (Prop×Wr×List Nat)
 |some (c,⟨v,[]⟩,fp)=>some (g=true->c,⟨slotOf d g v,[]⟩,fp)
 |some (c,⟨v,p::u⟩,fp)=>if g=true then some (c,⟨slotOf d true v,p::u⟩,fp) else some (True,⟨slotOf d false pD,[]⟩,[])
 |none=>if g=true then none else some (True,⟨slotOf d false pD,[]⟩,[])
def opG{P:Program}{X:Ctx}{w0:World}(sp:List (Spec P X w0))(n:Nat)(ops:Array Oper)(o:Oper)(E:Env)(H:Hp):Option (Prop×Wr×List Nat):=
 match V4 X.kp n o.dst,guardOf ops o E with
 |true,some g=>guarded o.dst g (opS sp o E H)
 |_,_=>none
def GR{P:Program}{X:Ctx}{w0:World}(sp:List (Spec P X w0))(n:Nat)(ops:Array Oper)(o:Oper)(E:Env)(H:Hp)(x:Wr)(f:List Nat):Prop:=
 V4 X.kp n o.dst=true/\∃g,guardOf ops o E=some g/\
  ((∃c e,opS sp o E H=some (c,e,f)/\(g=true->c)/\(e.upd=[]∨g=true)/\x=⟨slotOf o.dst g e.val,e.upd⟩)∨(g=false/\x=⟨slotOf o.dst false pD,[]⟩/\f=[]))
def Wr.E(x:Wr)(E:Env):Env:=match x.slot with|some (t,e)=>upd E t e|none=>E
def Wr.H(x:Wr)(H:Hp):Hp:=updH H x.us
section
variable {P:Program}{X:Ctx}{w0:World}{sp:List (Spec P X w0)}{n:Nat}{ops:Array Oper}{o:Oper}{E E':Env}{H H':Hp}{x:Wr}{f:List Nat}
theorem A0g{c:Prop}(h:opG sp n ops o E H=some (c,x,f))(hc:c):GR sp n ops o E H x f:=by
 unfold opG at h
 split at h
 .rename_i g hd hg
  refine⟨hd,g,hg,?_⟩
  unfold guarded at h
  split at h
  .grind
  .grind
  simp_all
 cases h
theorem Z6(h:∀t∈o.looksAt ops,E' t=E t):guardOf ops o E'=guardOf ops o E:=by
 unfold guardOf
 cases hg:o.guard with
 |none=>rfl
 |some gw=>
 obtain⟨j,want⟩:=gw
 simp only
 cases ht:(ops[j]?).bind (·.dst) with
 |none=>rfl
 |some t=>
 have:=h t (by simp[Oper.looksAt,hg,ht])
 simp only[this]
theorem pE{x:Operand}(h:∀t,x= .tmp t->E' t=E t):rdv E' x=rdv E x/\rdg E' x=rdg E x:=by
 cases x with
 |tmp t=>simp[rdv,rdg,h t rfl]
 |_=>exact⟨rfl,rfl⟩
theorem pG(hE:∀t∈o.looksAt ops,E' t=E t)(h:GR sp n ops o E H x f)(hf:∀k∈f,H' k=H k):GR sp n ops o E' H' x f:=by
 obtain⟨hd,g,hg,h⟩:=h
 refine⟨hd,g,by rw[Z6 hE];exact hg,?_⟩
 have hr:∀y∈o.op.operands,rdv E' y=rdv E y/\rdg E' y=rdg E y:=λy hy=>pE λt ht=>hE t (by
  subst ht
  exact List.mem_append_left _ (List.mem_filterMap.2 ⟨.tmp t,by simpa using hy,rfl⟩))
 rcases h with⟨c,e,h1,h2⟩|h
 .exact .inl ⟨c,e,by rw[A57 hr];exact A56 h1 hf,h2⟩
 exact .inr h
theorem A0h(h:GR sp n ops o E H x f):∀t e,x.slot=some (t,e)->o.dst=some t:=by
 obtain⟨hd,g,hg,h⟩:=h
 intro t e hs
 have key:∀g v,slotOf o.dst g v=some (t,e)->o.dst=some t:=by
  intro g v h1
  unfold slotOf at h1
  split at h1
  .simp_all
  cases h1
 rcases h with⟨c,e',h1,h2,h3,rfl⟩|⟨h1,rfl,_⟩
 .grind
 grind
end
def Hn(X:Ctx)(a:Act):Prop:=a.defers=X.dfs/\∀p∈X.kp,a.tmps[p.1]?=some p.2
structure At(X:Ctx)(w0:World)(n:Nat)(I:Nm)(lab:Lab)(fz:Nat->Prop)(E:Env)(H:Hp)(a:Act)(w:World):Prop where
 n:a.tmps.size=n
 d:Hn X a
 e:AtE (hp w) fz lab I H E a
 m:AtW X w0 I lab fz H w
theorem RX(a:Act)(d:Option Nat)(v:Value):(a.put d v).tmps.size=a.tmps.size:=by
 cases d<;>simp[Act.put]
theorem put_defers(a:Act)(d:Option Nat)(v:Value):(a.put d v).defers=a.defers:=by
 cases d<;>rfl
theorem put_get(a:Act)(t j:Nat)(v:Value)(ht:t<a.tmps.size):(a.put (some t) v).tmps[j]?=if j=t then some v else a.tmps[j]?:=by
 simp only[Act.put]
 rw[Array.getElem?_setIfInBounds]
 by_cases h:t=j
 .simp_all
 grind
theorem pH{X:Ctx}{a:Act}{n:Nat}{d:Option Nat}(h:Hn X a)(hd:V4 X.kp n d=true)(v:Value):Hn X (a.put d v):=by
 cases d with
 |none=>exact h
 |some t=>
 refine⟨by rw[put_defers];exact h.1,λp hp=>?_⟩
 have h1:=eS hd p hp
 have h2:=h.2 p hp
 simp only[Act.put]
 rw[Array.getElem?_setIfInBounds,if_neg (Ne.symm h1)]
 exact h2
section
variable {P:Program}{X:Ctx}{w0:World}{n:Nat}{I:Nm}{lab:Lab}{fz:Nat->Prop}{E:Env}{H:Hp}{a:Act}{w:World}
theorem AtE.put(h:AtE (hp w) fz lab I H E a){t:Nat}{g:Bool}{u:Value}(ht:t<a.tmps.size)(hu:if g then Ap (hp w) fz lab I H v u else u=undef):AtE (hp w) fz lab I H (upd E t (g,v)) (a.put (some t) u):=by
 intro j g' v' hj
 rw[put_get a t j u ht]
 unfold upd at hj
 split at hj
 .simp_all
 rename_i he
 rw[if_neg he]
 exact h j g' v' hj
theorem WFE.put(h:WFE E H){t:Nat}{g:Bool}(hv:g=true->Dom H v.names):WFE (upd E t (g,v)) H:=λj g' v' hj hg=>by
 unfold upd at hj
 split at hj
 .simp_all
 exact h j g' v' hj hg
theorem WFE.updH(h:WFE E H)(u:List (Nat×Ch)):WFE E (updH H u):=λt g v ht hg=>GT u (h t g v ht hg)
theorem AtE.mono(h:AtE (hp w) fz lab I H E a)(hW:WFE E H){w':World}{H':Hp}(hP:Pres (hp w) (hp w') fz fz' I I' H H'):AtE (hp w') fz' lab' I' H' E a:=by
 intro t g v ht
 obtain⟨x,hx,hd⟩:=h t g v ht
 refine⟨x,hx,?_⟩
 cases g with
 |false=>exact hd
 |true=>exact ki hP hd (hW t true v ht rfl)
theorem pI{ops:Array Oper}{o:Oper}{g:Bool}(hE:AtE (hp w) fz lab I H E a)(h:guardOf ops o E=some g):Region.wanted o (yielded ops a.tmps)=g:=by
 unfold guardOf at h
 unfold Region.wanted
 split at h
 .simp_all
 rename_i j want hg
 simp only[hg]
 split at h
 .rename_i t ht
  split at h
  .rename_i g0 b hb
   simp only[jS]at h
   subst h
   obtain⟨x,hx,hd⟩:=hE t g0 _ hb
   unfold yielded
   rw[ht]
   simp only[Option.bind_some,hx]
   cases g0 with
   |false=>
    simp only[jB,if_false]at hd
    subst hd
    cases want<;>simp[undef]
   |true=>
   simp only[if_true]at hd
   have:=Nt hd
   subst this
   cases b<;>cases want<;>simp
  simp at h
 simp at h
theorem lG{Q:Exit->Act->World->Prop}{ops:Array Oper}{sp:List (Spec P X w0)}{i:Nat}{o:Oper}{x:Wr}{f:List Nat}(hi:ops[i]?=some o)
  (hP:∀ch a w,Hn X a->Kh X w0 ch w->Q (.panic ch) a w) (hA:At X w0 n I lab fz E H a w) (hW:WFE E H) (h:GR sp n ops o E H x f) :
  wpOp P ops Q i (λa' w'=>WFE (x.E E) (x.H H)/\∃I' lab' fz',At X w0 n I' lab' fz' (x.E E) (x.H H) a' w') a w:=by
 obtain⟨hd,g,hg,h⟩:=h
 have hwant:=pI hA.e hg
 have hdl:∀t,o.dst=some t->t<a.tmps.size:=by
  intro t ht
  have hd':=eR hd
  rw[ht]at hd'
  simp only[ZV,decide_eq_true_eq]at hd'
  rw[hA.n];exact hd'
 have hkp:∀v,Hn X (a.put o.dst v):=pH hA.d hd
 unfold wpOp
 simp only[hi,hwant]
 have skip:∀v:SV,WFE (Wr.E ⟨slotOf o.dst false v,[]⟩ E) (Wr.H ⟨slotOf o.dst false v,[]⟩ H)/\∃I' lab' fz',At X w0 n I' lab' fz' (Wr.E ⟨slotOf o.dst false v,[]⟩ E) (Wr.H ⟨slotOf o.dst false v,[]⟩ H) (a.put o.dst undef) w:=by
  intro v
  cases hdst:o.dst with
  |none=>exact⟨hW,I,lab,fz,by rw[show a.put none undef=a from rfl];exact hA⟩
  |some t=>exact⟨hW.put (by simp),I,lab,fz,by rw[RX];exact hA.n,by rw[<- hdst];exact hkp _,hA.e.put (hdl t hdst) (by simp),hA.m⟩
 rcases h with⟨c,e,hop,hc,hu,rfl⟩|⟨rfl,rfl,_⟩
 .cases g with
  |false=>
   simp only[jB,or_false]at hu
   simp only[jB,if_false]
   rw[hu]
   have:=skip e.val
   cases hdst:o.dst with
   |none=>simp_all
   |some t=>simp_all
  |true=>
   simp only[if_true]
   left
   have hrun:=A0d sp hA.e hW hA.m hop (hc rfl)
   have hdom:=(vd sp hW hA.m hop (hc rfl)).1
   unfold Oper.wp
   have fin:∀y w',I6 X w0 w I lab fz H (some e.val) e.upd y w'->WFE (Wr.E ⟨slotOf o.dst true e.val,e.upd⟩ E) (Wr.H ⟨slotOf o.dst true e.val,e.upd⟩ H)/\∃I' lab' fz',At X w0 n I' lab' fz' (Wr.E ⟨slotOf o.dst true e.val,e.upd⟩ E) (Wr.H ⟨slotOf o.dst true e.val,e.upd⟩ H) (a.put o.dst y) w':=by
    rintro y w' ⟨I',lab',fz',h1,h2,h3⟩
    have hE':=hA.e.mono (lab':=lab') hW h3
    have h2:=h2 _ rfl
    cases hdst:o.dst with
    |none=>exact⟨hW.updH _,I',lab',fz',hA.n,hA.d,hE',h1⟩
    |some t=>exact⟨(hW.updH _).put (λ_=>hdom),I',lab',fz',by rw[RX];exact hA.n,by rw[<- hdst];exact hkp _,hE'.put (hdl t hdst) h2,h1⟩
   rcases hrun with⟨y,w',hr,hp'⟩|⟨w',hr,hdst,hp'⟩|⟨fn,args,hr,hcall⟩|⟨v,hr,hpan⟩
   .rw[hr]
    exact fin y w' hp'
   .rw[hr]
    obtain⟨I',lab',fz',h1,_,h3⟩:=hp'
    have hE':=hA.e.mono (lab':=lab') hW h3
    simp only[hdst,slotOf]
    exact⟨hW.updH _,I',lab',fz',by rw[RX];exact hA.n,hkp _,by rw[hdst];exact hE',h1⟩
   .rw[hr]
    refine hcall.mono ?_
    rintro en w' (⟨y,rfl,hp'⟩|⟨ch,rfl,hp'⟩)
    .exact fin y w' hp'
    .exact hP ch a w' hA.d hp'
   .rw[hr]
    exact hP _ a w hA.d hpan
 .simp_all
end
open Go.RowKit
def Kj{P:Program}{X:Ctx}{w0:World}(sp:List (Spec P X w0))(n:Nat)(ops:Array Oper):List Oper->Env->Hp->List Wr->List (List Nat)->Prop
 |[],_,_,[],[]=>True
 |o::r,E,H,x::xs,f::fs=>GR sp n ops o E H x f/\Kj sp n ops r (x.E E) (x.H H) xs fs
 |_,_,_,_,_=>False
def DV:List Wr->Nat->(Nat->Bool)->Env->Env
 |[],_,_,E=>E
 |x::xs,i,D,E=>DV xs (i+1) D (if D i then x.E E else E)
def D7:List Wr->Nat->(Nat->Bool)->Hp->Hp
 |[],_,_,H=>H
 |x::xs,i,D,H=>D7 xs (i+1) D (if D i then x.H H else H)
theorem J1(t:Nat):∀(xs:List Wr) (i:Nat) (D D':Nat->Bool) (E E':Env),E t=E' t->
  (∀j x e,xs[j]?=some x->x.slot=some (t,e)->D (i+j)=D' (i+j))->DV xs i D E t=DV xs i D' E' t
 |[],i,D,D',E,E',h,_=>h
 |x::xs,i,D,D',E,E',h,hD=>by
  simp only[DV]
  refine J1 t xs (i+1) D D' _ _ ?_ (λj y e hy he=>by have:=hD (j+1) y e (by simpa using hy) he;rwa [show i+(j+1)=i+1+j by omega]at this)
  cases hs:x.slot with
  |none=>simp only[Wr.E,hs];(repeat' split)<;>exact h
  |some p=>
  obtain⟨t',e⟩:=p
  by_cases ht:t'=t
  .subst ht
   have:=hD 0 x e (by simp) hs
   rw[Nat.add_zero]at this
   rw[this]
   split
   .simp[Wr.E,hs,upd]
   exact h
  have hne:x.E E t=E t:=by simp only[Wr.E,hs,upd];rw[if_neg (Ne.symm ht)]
  have hne':x.E E' t=E' t:=by simp only[Wr.E,hs,upd];rw[if_neg (Ne.symm ht)]
  (repeat' split)<;>simp only[hne,hne',h]
theorem RY{t:Nat}:∀(u:List (Nat×Ch)) {A B:Hp},A t=B t->updH A u t=updH B u t
 |[],_,_,h=>h
 |(k,c)::r,A,B,h=>RY r (by unfold upd;split<;>first|rfl|exact h)
theorem M0{t:Nat}:∀(u:List (Nat×Ch)) {A:Hp},t∉u.map (·.1)->updH A u t=A t
 |[],_,_=>rfl
 |(k,c)::r,A,h=>by
  simp only[map_cons,mem_cons,not_or]at h
  simp only[updH]
  rw[M0 r h.2,Bm _ _ h.1]
theorem V5{t:Nat}:∀(u:List (Nat×Ch)) {A B:Hp},t∈u.map (·.1)->updH A u t=updH B u t
 |[],_,_,h=>by cases h
 |(k,c)::r,A,B,h=>by
  simp only[updH]
  by_cases hr:t∈r.map (·.1)
  .exact V5 r hr
  simp only[map_cons,mem_cons,hr,or_false]at h
  subst h
  rw[M0 r hr,M0 r hr,BM,BM]
theorem KK(t:Nat):∀(xs:List Wr) (i:Nat) (D D':Nat->Bool) (E E':Hp),E t=E' t->
  (∀j x,xs[j]?=some x->t∈x.us.map (·.1)->D (i+j)=D' (i+j))->D7 xs i D E t=D7 xs i D' E' t
 |[],i,D,D',E,E',h,_=>h
 |x::xs,i,D,D',E,E',h,hD=>by
  simp only[D7]
  refine KK t xs (i+1) D D' _ _ ?_ (λj y hy he=>by have:=hD (j+1) y (by simpa using hy) he;rwa [show i+(j+1)=i+1+j by omega]at this)
  by_cases hs:t∈x.us.map (·.1)
  .have:=hD 0 x (by simp) hs
   rw[Nat.add_zero]at this
   rw[this]
   split
   .exact V5 _ hs
   exact h
  have hne:x.H E t=E t:=M0 _ hs
  have hne':x.H E' t=E' t:=M0 _ hs
  (repeat' split)<;>simp only[hne,hne',h]
theorem WJ(t:Nat)(e:Bool×SV):∀(xs:List Wr) (i:Nat) (D:Nat->Bool) (E:Env) (j:Nat) (x:Wr),xs[j]?=some x->x.slot=some (t,e)->D (i+j)=true->
  (∀k y e',j<k->xs[k]?=some y->y.slot=some (t,e')->D (i+k)=false)->DV xs i D E t=some e
 |[],i,D,E,j,x,hx,_,_,_=>by simp at hx
 |x0::xs,i,D,E,0,x,hx,hs,hD,hl=>by
  simp only[getElem?_cons_zero,jS]at hx
  subst hx
  simp only[DV]
  rw[Nat.add_zero]at hD
  rw[hD]
  simp only[if_true]
  rw[J1 t xs (i+1) D (λ_=>false) (x0.E E) (x0.E E) rfl (λk y e' hy he=>by have:=hl (k+1) y e' (by omega) (by simpa using hy) he;rwa [show i+(k+1)=i+1+k by omega]at this)]
  have:∀(ys:List Wr) (i:Nat) (E:Env),DV ys i (λ_=>false) E=E:=by
   intro ys
   induction ys with
   |nil=>intro i E;rfl
   |cons y ys ih=>intro i E;simp[DV,ih]
  rw[this]
  simp[Wr.E,hs,upd]
 |x0::xs,i,D,E,j+1,x,hx,hs,hD,hl=>by
  simp only[DV]
  exact WJ t e xs (i+1) D _ j x (by simpa using hx) hs (by rwa [show i+1+j=i+(j+1) by omega]) (λk y e' hk hy he=>by
   have:=hl (k+1) y e' (by omega) (by simpa using hy) he
   rwa [show i+(k+1)=i+1+k by omega]at this)
theorem WK(t:Nat)(A:Hp):∀(xs:List Wr) (i:Nat) (D:Nat->Bool) (E:Hp) (j:Nat) (x:Wr),xs[j]?=some x->t∈x.us.map (·.1)->D (i+j)=true->
  (∀k y,j<k->xs[k]?=some y->t∈y.us.map (·.1)->D (i+k)=false)->D7 xs i D E t=updH A x.us t
 |[],i,D,E,j,x,hx,_,_,_=>by simp at hx
 |x0::xs,i,D,E,0,x,hx,hs,hD,hl=>by
  simp only[getElem?_cons_zero,jS]at hx
  subst hx
  simp only[D7]
  rw[Nat.add_zero]at hD
  rw[hD]
  simp only[if_true]
  rw[KK t xs (i+1) D (λ_=>false) (x0.H E) (x0.H E) rfl (λk y hy he=>by have:=hl (k+1) y (by omega) (by simpa using hy) he;rwa [show i+(k+1)=i+1+k by omega]at this)]
  have:∀(ys:List Wr) (i:Nat) (E:Hp),D7 ys i (λ_=>false) E=E:=by
   intro ys
   induction ys with
   |nil=>intro i E;rfl
   |cons y ys ih=>intro i E;simp[D7,ih]
  rw[this]
  exact V5 _ hs
 |x0::xs,i,D,E,j+1,x,hx,hs,hD,hl=>by
  simp only[D7]
  exact WK t A xs (i+1) D _ j x (by simpa using hx) hs (by rwa [show i+1+j=i+(j+1) by omega]) (λk y hk hy he=>by
   have:=hl (k+1) y (by omega) (by simpa using hy) he
   rwa [show i+(k+1)=i+1+k by omega]at this)
def bW(o:Oper)(acc:List Nat):Nat:=
 o.after.toList.foldr (λe m=>if Region.binds .any e then m ||| (2 ^ e.on ||| acc.getD e.on 0) else m) 0
def Sn:List Oper->List Nat->List Nat
 |[],acc=>acc
 |o::r,acc=>Sn r (acc++[bW o acc])
def Dep(ops:Array Oper)(j k:Nat):Prop:=∃o,ops[j]?=some o/\∃e∈o.after,Region.binds .any e=true/\e.on=k
def Ob(ops:Array Oper)(D:Nat->Bool):Prop:=∀j k,D j=true->Dep ops j k->D k=true
theorem vf{ops:Array Oper}{D:Nat->Bool}(hc:Ob ops D)(acc:List Nat)(hacc:∀j m k,acc[j]?=some m->m.testBit k=true->D j=true->D k=true)(o:Oper)(i:Nat)(ho:ops[i]?=some o)(hi:D i=true)(k:Nat)
  (hk:(bW o acc).testBit k=true):D k=true:=by
 have:∀(l:List Edge),(∀e∈l,e∈o.after)->(l.foldr (λe m=>if Region.binds .any e then m ||| (2 ^ e.on ||| acc.getD e.on 0) else m) 0).testBit k=true->D k=true:=by
  intro l
  induction l with
  |nil=>simp_all
  |cons e l ih=>
   intro hl h
   simp only[List.foldr_cons]at h
   split at h
   .rename_i hb
    simp only[Nat.testBit_or,or_eq_true]at h
    have hon:D e.on=true:=hc i e.on hi ⟨o,ho,e,hl e (mem_cons_self ..),hb,rfl⟩
    rcases h with h|h|h
    .simp_all
    .grind
    .grind
   .simp_all
 exact this o.after.toList (λe he=>mem_toList_iff.1 he) hk
theorem lH{ops:Array Oper}{D:Nat->Bool}(hc:Ob ops D):∀(l:List Oper) (acc:List Nat),(∀j,l[j]?=ops[acc.length+j]?)->
  (∀j m k,acc[j]?=some m->m.testBit k=true->D j=true->D k=true)->∀j m k,(Sn l acc)[j]?=some m->m.testBit k=true->D j=true->D k=true
 |[],acc,_,h=>h
 |o::l,acc,hl,h=>by
  refine lH hc l (acc++[bW o acc]) (λj=>by have:=hl (j+1);simp only[getElem?_cons_succ]at this;rw[this];congr 1;simp;omega) ?_
  intro j m k hj hm hD
  rw[List.getElem?_append]at hj
  split at hj
  .grind
  rename_i hge
  have hj0:j=acc.length:=by grind
  subst hj0
  simp only[Nat.sub_self,getElem?_cons_zero,jS]at hj
  subst hj
  have ho:ops[acc.length]?=some o:=by have:=hl 0;simp only[getElem?_cons_zero,Nat.add_zero]at this;exact this.symm
  exact vf hc acc h o acc.length ho hD k hm
structure Tch where
 d:Option Nat
 r:List Nat
 wb:List Nat
 fp:List Nat
def tch(ops:Array Oper):List Oper->List Wr->List (List Nat)->List Tch
 |o::l,x::xs,f::fs=>⟨o.dst,o.looksAt ops,x.us.map (·.1),f⟩::tch ops l xs fs
 |_,_,_=>[]
def Ql(x y:Tch):Bool:=
 match x.d with
 |some d=>!(y.r.contains d)&&y.d != some d
 |none=>true
def WL(x y:Tch):Bool:=x.wb.all λb=>!(y.wb.contains b)&&!(y.fp.contains b)
def K2(x y:Tch):Bool:=Ql x y&&Ql y x&&WL x y&&WL y x
def So(x:Tch)(i:Nat):List Tch->List Nat->Bool
 |y::ys,m::ms=>(m.testBit i||K2 x y)&&So x i ys ms
 |_,_=>true
def Qm(i:Nat):List Tch->List Nat->Bool
 |x::xs,_::ms=>So x i xs ms&&Qm (i+1) xs ms
 |_,_=>true
def Sp(md:Region.Mode)(m:Nat)(rk:Nat->Nat)(i:Nat):List Oper->Bool
 |[]=>true
 |o::l=>o.after.toList.all (λe=>!Region.binds md e||(decide (e.on<m)&&decide (rk e.on<rk i)))&&Sp md m rk (i+1) l
def A85(l:List Nat)(i:Nat):Nat:=l.idxOf i
def fwd(ops:Array Oper):Bool:=
 Sp .any ops.size id 0 ops.toList&&Sp .text ops.size id 0 ops.toList&&Sp .gc ops.size (A85 (Region.linearise .gc ops 0)) 0 ops.toList
def chk(ops:Array Oper)(xs:List Wr)(fs:List (List Nat)):Bool:=
 fwd ops&&Qm 0 (tch ops ops.toList xs fs) (Sn ops.toList [])
theorem UP{x:Tch}{i:Nat}:∀{ys:List Tch} {ms:List Nat},So x i ys ms=true->∀(j:Nat) (y:Tch) (m:Nat),ys[j]?=some y->ms[j]?=some m->m.testBit i=true∨K2 x y=true
 |[],_,_,j,y,m,hy,_=>by simp at hy
 |y0::ys,[],_,j,y,m,_,hm=>by simp at hm
 |y0::ys,m0::ms,h,0,y,m,hy,hm=>by
  simp only[getElem?_cons_zero,jS]at hy hm
  subst hy;subst hm
  simp only[So,and_eq_true,or_eq_true]at h
  exact h.1
 |y0::ys,m0::ms,h,j+1,y,m,hy,hm=>by
  simp only[So,and_eq_true]at h
  exact UP h.2 j y m (by simpa using hy) (by simpa using hm)
theorem Pc:∀{xs:List Tch} {ms:List Nat} {s:Nat},Qm s xs ms=true->∀(i j:Nat) (x y:Tch) (m:Nat),i<j->xs[i]?=some x->xs[j]?=some y->ms[j]?=some m->m.testBit (s+i)=true∨K2 x y=true
 |[],_,_,_,i,j,x,y,m,_,hx,_,_=>by simp at hx
 |x0::xs,[],_,_,i,j,x,y,m,_,_,_,hm=>by simp at hm
 |x0::xs,m0::ms,s,h,0,j+1,x,y,m,_,hx,hy,hm=>by
  simp only[getElem?_cons_zero,jS]at hx
  subst hx
  simp only[Qm,and_eq_true]at h
  exact UP h.1 j y m (by simpa using hy) (by simpa using hm)
 |x0::xs,m0::ms,s,h,i+1,j+1,x,y,m,hij,hx,hy,hm=>by
  simp only[Qm,and_eq_true]at h
  have:=Pc h.2 i j x y m (by omega) (by simpa using hx) (by simpa using hy) (by simpa using hm)
  rwa [show s+(i+1)=s+1+i by omega]
theorem UQ:∀(l:List Oper) (acc:List Nat),(Sn l acc).length=acc.length+l.length
 |[],acc=>rfl
 |o::l,acc=>by simp only[Sn,UQ l,List.length_append,length_nil,length_cons];omega
theorem Yt{md:Region.Mode}{m:Nat}{rk:Nat->Nat}:∀{l:List Oper} {s:Nat},Sp md m rk s l=true->∀i o,l[i]?=some o->∀e∈o.after,Region.binds md e=true->e.on<m/\rk e.on<rk (s+i)
 |[],_,_,i,o,ho=>by simp at ho
 |o0::l,s,h,0,o,ho=>by
  simp only[getElem?_cons_zero,jS]at ho
  subst ho
  simp only[Sp,and_eq_true,all_eq_true,or_eq_true,not_eq_true',decide_eq_true_eq]at h
  intro e he hb
  rcases h.1 e (mem_toList_iff.2 he) with h1|h1
  .simp_all
  exact h1
 |o0::l,s,h,i+1,o,ho=>by
  simp only[Sp,and_eq_true]at h
  intro e he hb
  have:=Yt h.2 i o (by simpa using ho) e he hb
  rwa [show s+(i+1)=s+1+i by omega]
theorem bX{ops:Array Oper}(h:fwd ops=true)(md:Region.Mode):∃rk:Nat->Nat,∀i o,ops[i]?=some o->∀e∈o.after,Region.binds md e=true->e.on<ops.size/\rk e.on<rk i:=by
 simp only[fwd,and_eq_true]at h
 obtain⟨⟨h1,h2⟩,h3⟩:=h
 have key:∀(md:Region.Mode) (rk:Nat->Nat),Sp md ops.size rk 0 ops.toList=true->∀i o,ops[i]?=some o->∀e∈o.after,Region.binds md e=true->e.on<ops.size/\rk e.on<rk i:=by
  intro md rk hm i o ho e he hb
  have:=Yt hm i o (by rw[getElem?_toList];exact ho) e he hb
  rwa [Nat.zero_add]at this
 cases md with
 |any=>exact⟨id,key _ _ h1⟩
 |text=>exact⟨id,key _ _ h2⟩
 |gc=>exact⟨_,key _ _ h3⟩
theorem pJ{ops:Array Oper}(h:fwd ops=true){i:Nat}{o:Oper}(ho:ops[i]?=some o){e:Edge}(he:e∈o.after)(hb:Region.binds .any e=true):e.on<ops.size:=by
 obtain⟨rk,hrk⟩:=bX h .any
 exact(hrk i o ho e he hb).1
theorem V6(ops:Array Oper):∀(l:List Oper) (xs:List Wr) (fs:List (List Nat)) (i:Nat) (o:Oper) (x:Wr) (f:(List Nat)),l[i]?=some o->xs[i]?=some x->fs[i]?=some f->
  (tch ops l xs fs)[i]?=some ⟨o.dst,o.looksAt ops,x.us.map (·.1),f⟩
 |o::l,x::xs,f::fs,0,o',x',f',h1,h2,h3=>by
  simp only[getElem?_cons_zero,jS]at h1 h2 h3
  subst h1;subst h2;subst h3
  simp[tch]
 |o::l,x::xs,f::fs,i+1,o',x',f',h1,h2,h3=>by
  simp only[tch,getElem?_cons_succ]
  exact V6 ops l xs fs i o' x' f' (by simpa using h1) (by simpa using h2) (by simpa using h3)
 |[],_,_,i,_,_,_,h1,_,_=>by simp at h1
 |_::_,[],_,i,_,_,_,_,h2,_=>by simp at h2
 |_::_,_::_,[],i,_,_,_,_,_,h3=>by simp at h3
section
variable {P:Program}{X:Ctx}{w0:World}{sp:List (Spec P X w0)}{n:Nat}{ops:Array Oper}
theorem RZ:∀{l:List Oper} {E:Env} {H:Hp} {xs:List Wr} {fs:List (List Nat)},Kj sp n ops l E H xs fs->xs.length=l.length/\fs.length=l.length
 |[],_,_,[],[],_=>⟨rfl,rfl⟩
 |o::l,E,H,x::xs,f::fs,h=>by
  obtain⟨_,hr⟩:=h
  have:=RZ hr
  simp[this.1,this.2]
 |[],_,_,_::_,_,h=>by simp[Kj]at h
 |[],_,_,[],_::_,h=>by simp[Kj]at h
 |_::_,_,_,[],_,h=>by simp[Kj]at h
 |_::_,_,_,_::_,[],h=>by simp[Kj]at h
theorem Pd(xs:List Wr):∀(i:Nat) (D:Nat->Bool) (E:Env),(∀j,D (i+j)=false)->DV xs i D E=E:=by
 induction xs with
 |nil=>intro i D E _;rfl
 |cons x xs ih=>
 intro i D E h
 simp only[DV]
 rw[show D i=false from h 0]
 exact ih (i+1) D E (λj=>by have:=h (j+1);rwa [show i+(j+1)=i+1+j by omega]at this)
theorem Pe(xs:List Wr):∀(i:Nat) (D:Nat->Bool) (E:Hp),(∀j,D (i+j)=false)->D7 xs i D E=E:=by
 induction xs with
 |nil=>intro i D E _;rfl
 |cons x xs ih=>
 intro i D E h
 simp only[D7]
 rw[show D i=false from h 0]
 exact ih (i+1) D E (λj=>by have:=h (j+1);rwa [show i+(j+1)=i+1+j by omega]at this)
theorem Xw:∀{l:List Oper} {E:Env} {H:Hp} {xs:List Wr} {fs:List (List Nat)} (s:Nat),Kj sp n ops l E H xs fs->∀(i:Nat) (o:Oper) (x:Wr) (f:(List Nat)),l[i]?=some o->xs[i]?=some x->fs[i]?=some f->
  GR sp n ops o (DV xs s (λj=>decide (j<s+i)) E) (D7 xs s (λj=>decide (j<s+i)) H) x f
 |o::l,E,H,x::xs,f::fs,s,h,0,o',x',f',h1,h2,h3=>by
  simp only[getElem?_cons_zero,jS]at h1 h2 h3
  subst h1;subst h2;subst h3
  obtain⟨hs,hr⟩:=h
  rw[Pd _ s _ E (λj=>by simp),Pe _ s _ H (λj=>by simp)]
  exact hs
 |o::l,E,H,x::xs,f::fs,s,h,i+1,o',x',f',h1,h2,h3=>by
  obtain⟨hs,hr⟩:=h
  have ih:=Xw (s+1) hr i o' x' f' (by simpa using h1) (by simpa using h2) (by simpa using h3)
  have e:(λj=>decide (j<s+1+i))=λj=>decide (j<s+(i+1)):=by funext j;congr 1;rw[Nat.add_right_comm,Nat.add_assoc]
  rw[e]at ih
  have h0:decide (s<s+(i+1))=true:=by simp
  simp only[DV,D7,h0,if_true]
  simpa only[getElem?_cons_succ] using ih
 |[],_,_,_,_,_,_,i,_,_,_,h1,_,_=>by simp at h1
 |_::_,_,_,[],_,_,_,i,_,_,_,_,h2,_=>by simp at h2
 |_::_,_,_,_::_,[],_,_,i,_,_,_,_,_,h3=>by simp at h3
def KL(xs:List Wr)(E:Env):Env:=DV xs 0 (λ_=>true) E
def KM(xs:List Wr)(H:Hp):Hp:=D7 xs 0 (λ_=>true) H
variable {E:Env}{H:Hp}{xs:List Wr}{fs:List (List Nat)}{Q:Exit->Act->World->Prop}
theorem pK(hP:∀ch a w,Hn X a->Kh X w0 ch w->Q (.panic ch) a w)(hrun:Kj sp n ops ops.toList E H xs fs)(hchk:chk ops xs fs=true){D:Nat->Bool}(hcl:Ob ops D){i:Nat}{o:Oper}(ho:ops[i]?=some o)(hi:D i=false)(hdep:∀k,Dep ops i k->D k=true)
  {I:Nm} {lab:Lab} {fz:Nat->Prop} {a:Act} {w:World} (hW:WFE (DV xs 0 D E) (D7 xs 0 D H)) (hA:At X w0 n I lab fz (DV xs 0 D E) (D7 xs 0 D H) a w) :
  wpOp P ops Q i (λa' w'=>WFE (DV xs 0 (λj=>D j||j==i) E) (D7 xs 0 (λj=>D j||j==i) H)/\∃I' lab' fz',At X w0 n I' lab' fz' (DV xs 0 (λj=>D j||j==i) E) (D7 xs 0 (λj=>D j||j==i) H) a' w') a w:=by
 have hlt:i<ops.size:=(Array.getElem?_eq_some_iff.1 ho).1
 obtain⟨hl1,hl2⟩:=RZ hrun
 have hsz:ops.toList.length=ops.size:=length_toList
 rw[hsz]at hl1 hl2
 obtain⟨x,hx⟩:∃x,xs[i]?=some x:=⟨_,getElem?_eq_getElem (by omega)⟩
 obtain⟨f,hf⟩:∃f,fs[i]?=some f:=⟨_,getElem?_eq_getElem (by omega)⟩
 have hol:ops.toList[i]?=some o:=by rw[getElem?_toList];exact ho
 have hs:=Xw 0 hrun i o x f hol hx hf
 simp only[chk,and_eq_true]at hchk
 obtain⟨_,hall⟩:=hchk
 have hcl':Ob ops (λj=>D j||j==i):=by
  intro j k hj hd
  simp only[or_eq_true,beq_iff_eq]at hj ⊢
  rcases hj with hj|rfl
  .exact .inl (hcl j k hj hd)
  .simp_all
 have pair:∀(j:Nat) (y:Wr) (g:(List Nat)) (oj:Oper),ops[j]?=some oj->xs[j]?=some y->fs[j]?=some g->j≠i->D j=decide (j<i)∨
   K2 ⟨o.dst,o.looksAt ops,x.us.map (·.1),f⟩ ⟨oj.dst,oj.looksAt ops,y.us.map (·.1),g⟩=true∨K2 ⟨oj.dst,oj.looksAt ops,y.us.map (·.1),g⟩ ⟨o.dst,o.looksAt ops,x.us.map (·.1),f⟩=true:=by
  intro j y g oj hoj hy hg hne
  have hjl:ops.toList[j]?=some oj:=by rw[getElem?_toList];exact hoj
  have hjs:j<ops.size:=(Array.getElem?_eq_some_iff.1 hoj).1
  have t1:=V6 ops ops.toList xs fs i o x f hol hx hf
  have t2:=V6 ops ops.toList xs fs j oj y g hjl hy hg
  have hlen:=UQ ops.toList []
  simp only[length_nil,Nat.zero_add,length_toList]at hlen
  have hanc:=λ(D':Nat->Bool) (h:Ob ops D')=>lH h ops.toList [] (λj=>by simp[getElem?_toList]) (by simp)
  rcases Nat.lt_or_ge j i with hji|hij
  .obtain⟨m,hm⟩:∃m,(Sn ops.toList [])[i]?=some m:=⟨_,getElem?_eq_getElem (by omega)⟩
   rcases Pc hall j i _ _ m hji t2 t1 hm with hb|hb
   .grind
   .simp_all
  .have hij':i<j:=by omega
   obtain⟨m,hm⟩:∃m,(Sn ops.toList [])[j]?=some m:=⟨_,getElem?_eq_getElem (by omega)⟩
   rcases Pc hall i j _ _ m hij' t1 t2 hm with hb|hb
   .grind
   .simp_all
 have ops_at:∀(j:Nat) (y:Wr),xs[j]?=some y->∃oj g,ops[j]?=some oj/\fs[j]?=some g:=by grind
 have slot_dst:∀(j:Nat) (y:Wr) (oj:Oper) (g:(List Nat)),ops[j]?=some oj->xs[j]?=some y->fs[j]?=some g->∀t e,y.slot=some (t,e)->oj.dst=some t:=by
  intro j y oj g hoj hy hg t e he
  exact A0h (Xw 0 hrun j oj y g (by rw[getElem?_toList];exact hoj) hy hg) t e he
 have hEq:∀t∈o.looksAt ops,DV xs 0 D E t=DV xs 0 (λj=>decide (j<0+i)) E t:=by
  intro t ht
  refine J1 t xs 0 D _ E E rfl (λj y e hy he=>?_)
  simp only[Nat.zero_add]
  by_cases hne:j=i
  .grind
  .obtain⟨oj,g,hoj,hg⟩:=ops_at j y hy
   have hdj:=slot_dst j y oj g hoj hy hg t e he
   rcases pair j y g oj hoj hy hg hne with h|h|h
   .exact h
   .simp only[K2,Ql,hdj,and_eq_true]at h
    have:=h.1.1.2.1
    simp[ht]at this
   .simp only[K2,Ql,hdj,and_eq_true]at h
    have:=h.1.1.1.1
    simp[ht]at this
 have apB:∀{p q:Tch} {k:Nat},WL p q=true->k∈p.wb->k∉q.wb/\k∉q.fp:=by
  intro p q k h hk
  simp only[WL,all_eq_true]at h
  have:=h k hk
  simp only[and_eq_true,not_eq_true',List.contains_eq_mem,decide_eq_false_iff_not]at this
  exact this
 have hFp:∀k∈f,D7 xs 0 D H k=D7 xs 0 (λj=>decide (j<0+i)) H k:=by
  intro k hkf
  refine KK k xs 0 D _ H H rfl (λj y hy he=>?_)
  simp only[Nat.zero_add]
  by_cases hne:j=i
  .grind
  .obtain⟨oj,g,hoj,hg⟩:=ops_at j y hy
   rcases pair j y g oj hoj hy hg hne with h|h|h
   .exact h
   .simp only[K2,and_eq_true]at h
    exact absurd hkf (apB h.2 he).2
   .simp only[K2,and_eq_true]at h
    exact absurd hkf (apB h.1.2 he).2
 have hs':=pG hEq hs hFp
 have hE':x.E (DV xs 0 D E)=DV xs 0 (λj=>D j||j==i) E:=by
  funext t
  cases hsl:x.slot with
  |none=>
   simp only[Wr.E,hsl]
   refine J1 t xs 0 D _ E E rfl (λj y e hy he=>?_)
   by_cases hne:j=i
   .grind
   .simp[hne]
  |some p=>
   obtain⟨t',e'⟩:=p
   simp only[Wr.E,hsl,upd]
   by_cases ht:t=t'
   .subst ht
    rw[if_pos rfl]
    refine(WJ t e' xs 0 _ E i x hx hsl (by simp) (λk y e2 hk hy he=>?_)).symm
    simp only[Nat.zero_add]
    have hne:k≠i:=by omega
    obtain⟨oj,g,hoj,hg⟩:=ops_at k y hy
    have hdj:=slot_dst k y oj g hoj hy hg t e2 he
    have hdi:=slot_dst i x o f ho hx hf t e' hsl
    rcases pair k y g oj hoj hy hg hne with h|h|h
    .grind
    .simp[K2,Ql,hdj,hdi]at h
    .simp[K2,Ql,hdj,hdi]at h
   .rw[if_neg ht]
    refine J1 t xs 0 D _ E E rfl (λj y e hy he=>?_)
    by_cases hne:j=i
    .grind
    .simp[hne]
 have hH':x.H (D7 xs 0 D H)=D7 xs 0 (λj=>D j||j==i) H:=by
  funext t
  by_cases ht:t∈x.us.map (·.1)
  .refine(WK t (D7 xs 0 D H) xs 0 _ H i x hx ht (by simp) (λk y hk hy he=>?_)).symm
   simp only[Nat.zero_add]
   have hne:k≠i:=by omega
   obtain⟨oj,g,hoj,hg⟩:=ops_at k y hy
   rcases pair k y g oj hoj hy hg hne with h|h|h
   .grind
   .simp only[K2,and_eq_true]at h
    exact absurd ht (apB h.2 he).1
   .simp only[K2,and_eq_true]at h
    exact absurd ht (apB h.1.2 he).1
  .rw[show x.H (D7 xs 0 D H) t=D7 xs 0 D H t from M0 _ ht]
   refine KK t xs 0 D _ H H rfl (λj y hy he=>?_)
   by_cases hne:j=i
   .grind
   .simp[hne]
 rw[<- hE',<- hH']
 exact lG ho hP hA hW hs'
end
def cnt(D:Nat->Bool):Nat->Nat
 |0=>0
 |k+1=>cnt D k+if D k then 0 else 1
theorem bY{D:Nat->Bool}:∀{m:Nat},cnt D m=0->∀i,i<m->D i=true
 |m+1,h,i,hi=>by
  simp only[cnt]at h
  by_cases he:i=m
  .simp_all
  exact bY (m:=m) (by omega) i (by omega)
theorem Yu{D D':Nat->Bool}:∀{m:Nat},(∀i,i<m->D i=D' i)->cnt D m=cnt D' m
 |0,_=>rfl
 |m+1,h=>by simp only[cnt];rw[Yu (m:=m) (λi hi=>h i (by omega)),h m (by omega)]
theorem eT{D:Nat->Bool}{i:Nat}(hD:D i=false):∀{m:Nat},i<m->cnt (λj=>D j||j==i) m+1=cnt D m
 |m+1,hi=>by
  simp only[cnt]
  by_cases he:i=m
  .subst he
   rw[Yu (D:=λj=>D j||j==i) (D':=D) (m:=i) (λj hj=>by
    have hji:(j==i)=false:=by simp;omega
    simp[hji])]
   simp[hD]
  have:=eT hD (m:=m) (by omega)
  have h2:(m==i)=false:=by simp;omega
  simp only[h2,Bool.or_false]
  omega
section
variable {P:Program}{X:Ctx}{w0:World}{sp:List (Spec P X w0)}{n:Nat}{ops:Array Oper}{E:Env}{H:Hp}{xs:List Wr}{fs:List (List Nat)}{Q:Exit->Act->World->Prop}
theorem lI{e:Edge}(h:Region.binds .any e=true)(md:Region.Mode):Region.binds md e=true:=by
 unfold Region.binds at*
 split at h<;>simp_all
theorem lJ(hP:∀ch a w,Hn X a->Kh X w0 ch w->Q (.panic ch) a w)(hrun:Kj sp n ops ops.toList E H xs fs)(hchk:chk ops xs fs=true)
  (hQ:∀a w I lab fz,WFE (KL xs E) (KM xs H)->At X w0 n I lab fz (KL xs E) (KM xs H) a w->Q .normal a w) (md:Region.Mode) :
  ∀(fuel:Nat) (listed:Array Bool) (D:Nat->Bool) (a:Act) (w:World) (I:Nm) (lab:Lab) (fz:Nat->Prop),listed.size=ops.size->(∀i,i<ops.size->listed.getD i false=D i)->cnt D ops.size=fuel->Ob ops D->
   WFE (DV xs 0 D E) (D7 xs 0 D H)->At X w0 n I lab fz (DV xs 0 D E) (D7 xs 0 D H) a w->wpAny P md ops Q fuel listed a w:=by
 have hfwd:fwd ops=true:=by simp only[chk,and_eq_true]at hchk;exact hchk.1
 obtain⟨hl1,hl2⟩:=RZ hrun
 have hsz:ops.toList.length=ops.size:=length_toList
 rw[hsz]at hl1 hl2
 have fin:∀(D:Nat->Bool),(∀i,i<ops.size->D i=true)->DV xs 0 D E=KL xs E/\D7 xs 0 D H=KM xs H:=by
  intro D hD
  constructor
  .funext t
   exact J1 t xs 0 D _ E E rfl (λj y e hy _=>by grind)
  .funext t
   exact KK t xs 0 D _ H H rfl (λj y hy _=>by grind)
 have ready_nil:∀(listed:Array Bool) (D:Nat->Bool),listed.size=ops.size->(∀i,i<ops.size->listed.getD i false=D i)->Region.ready md ops listed=[]->∀i,i<ops.size->D i=true:=by
  intro listed D hls hL hnil
  obtain⟨rk,hrk⟩:=bX hfwd md
  have:∀k i,rk i=k->i<ops.size->D i=true:=by
   intro k
   induction k using Nat.strongRecOn with
   |_ k ih=>
    intro i hk hi
    cases hDi:D i with
    |true=>rfl
    |false=>
     have:i∈Region.ready md ops listed:=by
      rw[mem_ready]
      refine⟨?_,ops[i],Array.getElem?_eq_getElem hi,λe he hb=>?_⟩
      .simp_all
      .grind
     rw[hnil]at this
     simp at this
  exact λi hi=>this _ i rfl hi
 intro fuel
 induction fuel with
 |zero=>
  intro listed D a w I lab fz hls hL hcnt hcl hW hA
  have hall:=bY hcnt
  obtain⟨f1,f2⟩:=fin D hall
  rw[f1,f2]at hW hA
  refine⟨?_,hQ a w I lab fz hW hA⟩
  cases hr:Region.ready md ops listed with
  |nil=>rfl
  |cons i r=>
   have hi:i∈Region.ready md ops listed:=by rw[hr];exact mem_cons_self ..
   rw[mem_ready]at hi
   obtain⟨h1,o,ho,_⟩:=hi
   have hlt:i<ops.size:=(Array.getElem?_eq_some_iff.1 ho).1
   have h2:=hL i hlt
   have hil:i<listed.size:=by omega
   simp only[Array.getD_eq_getD_getElem?,Array.getElem?_eq_getElem hil,getD_some]at h1 h2
   rw[h1]at h2
   rw[hall i hlt]at h2
   simp at h2
 |succ fuel ih=>
  intro listed D a w I lab fz hls hL hcnt hcl hW hA
  constructor
  .intro hnil
   have hall:=ready_nil listed D hls hL hnil
   obtain⟨f1,f2⟩:=fin D hall
   rw[f1,f2]at hW hA
   exact hQ a w I lab fz hW hA
  .intro i hi
   rw[mem_ready]at hi
   obtain⟨h1,o,ho,hdeps⟩:=hi
   have hlt:i<ops.size:=(Array.getElem?_eq_some_iff.1 ho).1
   have hil:i<listed.size:=by omega
   have hDi:D i=false:=by grind
   have hdep:∀k,Dep ops i k->D k=true:=by
    rintro k ⟨o',ho',e,he,hb,rfl⟩
    rw[ho]at ho'
    simp only[jS]at ho'
    subst ho'
    have h3:=hdeps e he (lI hb md)
    rw[<- hL e.on (pJ hfwd ho he hb)]
    exact h3
   refine wpOp_mono ?_ (pK hP hrun hchk hcl ho hDi hdep hW hA)
   rintro a' w' ⟨hW',I',lab',fz',hA'⟩
   refine ih (listed.setIfInBounds i true) (λj=>D j||j==i) a' w' I' lab' fz' (by simp[hls]) ?_ ?_ ?_ hW' hA'
   .intro j hj
    by_cases hji:j=i
    .subst hji;simp[hil]
    .have:=hL j hj
     rw[getD_set_ne false (Ne.symm hji),this]
     simp[hji]
   .have:=eT hDi hlt
    omega
   .intro j k hj hd
    simp only[or_eq_true,beq_iff_eq]at hj ⊢
    rcases hj with hj|rfl
    .exact .inl (hcl j k hj hd)
    .grind
theorem At.drawn{I:Nm}{lab:Lab}{fz:Nat->Prop}{a:Act}{w:World}(h:At X w0 n I lab fz E H a w)(k:Nat):At X w0 n I lab fz E H a { w with drawn:=k }:=
 ⟨h.n,h.d,h.e,h.m.drew _ rfl rfl rfl rfl⟩
theorem cn{id:Nat}{a:Act}{w:World}{I:Nm}{lab:Lab}{fz:Nat->Prop}(hP:∀ch a w,Hn X a->Kh X w0 ch w->Q (.panic ch) a w)(hrun:Kj sp n ops ops.toList E H xs fs)(hchk:chk ops xs fs=true)(hW:WFE E H)(hA:At X w0 n I lab fz E H a w)
  (hQ:∀a w I lab fz,WFE (KL xs E) (KM xs H)->At X w0 n I lab fz (KL xs E) (KM xs H) a w->Q .normal a w):(Code.region id ops true).wp P Q a w:=by
 refine wp_region_draw λt=>?_
 have key:∀md t,wpOps P ops Q (Region.linearise md ops t) a { w with drawn:=w.drawn+1 }:=by
  intro md t
  refine wpAny_sound ops.size t (Array.replicate ops.size false) a _ ?_
  refine lJ hP hrun hchk hQ md ops.size _ (λ_=>false) a _ I lab fz (by simp) (by intro i hi;simp[hi]) ?_ ?_ ?_ ?_
  .have:∀m,cnt (λ_=>false) m=m:=by
    intro m
    induction m with
    |zero=>rfl
    |succ m ih=>simp[cnt,ih]
   exact this _
  .intro j k hj;simp at hj
  .rw[Pd _ _ _ _ (λ_=>rfl),Pe _ _ _ _ (λ_=>rfl)];exact hW
  .rw[Pd _ _ _ _ (λ_=>rfl),Pe _ _ _ _ (λ_=>rfl)];exact hA.drawn _
 unfold Region.schedule
 split
 .exact key _ _
 .exact key _ _
theorem V7(hP:∀ch a w,Hn X a->Kh X w0 ch w->Q (.panic ch) a w):∀(l:List Oper) (s:Nat) (E:Env) (H:Hp) (xs:List Wr) (fs:List (List Nat)) (a:Act) (w:World) (I:Nm) (lab:Lab) (fz:Nat->Prop),(∀j,l[j]?=ops[s+j]?)->Kj sp n ops l E H xs fs->WFE E H->At X w0 n I lab fz E H a w->
  (∀a w I lab fz,WFE (DV xs 0 (λ_=>true) E) (D7 xs 0 (λ_=>true) H)->At X w0 n I lab fz (DV xs 0 (λ_=>true) E) (D7 xs 0 (λ_=>true) H) a w->Q .normal a w)->wpOps P ops Q (List.range' s l.length) a w
 |[],s,E,H,xs,fs,a,w,I,lab,fz,hl,hrun,hW,hA,hQ=>by
  have:=(RZ hrun).1
  simp only[length_nil,List.length_eq_zero_iff]at this
  subst this
  exact hQ a w I lab fz hW hA
 |o::l,s,E,H,x::xs,f::fs,a,w,I,lab,fz,hl,hrun,hW,hA,hQ=>by
  obtain⟨hs,hr⟩:=hrun
  have ho:ops[s]?=some o:=by have:=hl 0;simp only[getElem?_cons_zero,Nat.add_zero]at this;exact this.symm
  rw[length_cons,List.range'_succ,wpOps_cons]
  refine wpOp_mono ?_ (lG ho hP hA hW hs)
  rintro a' w' ⟨hW',I',lab',fz',hA'⟩
  have gen:∀(ys:List Wr) (i j:Nat) (E:Env),DV ys i (λ_=>true) E=DV ys j (λ_=>true) E:=by
   exact AAs
  have genH:∀(ys:List Wr) (i j:Nat) (E:Hp),D7 ys i (λ_=>true) E=D7 ys j (λ_=>true) E:=by
   exact AAy
  refine V7 hP l (s+1) _ _ xs fs a' w' I' lab' fz' (λj=>by have:=hl (j+1);simp only[getElem?_cons_succ]at this;rw[this];congr 1;omega) hr hW' hA' ?_
  intro a2 w2 I2 lab2 fz2 hW2 hA2
  refine hQ a2 w2 I2 lab2 fz2 ?_ ?_
  .simp only[DV,D7,if_true];rw[gen xs (0+1) 0,genH xs (0+1) 0];exact hW2
  simp only[DV,D7,if_true];rw[gen xs (0+1) 0,genH xs (0+1) 0];exact hA2
 |_::_,_,_,_,[],_,_,_,_,_,_,_,hrun,_,_,_=>by simp[Kj]at hrun
 |_::_,_,_,_,_::_,[],_,_,_,_,_,_,hrun,_,_,_=>by simp[Kj]at hrun
theorem co{id:Nat}{a:Act}{w:World}{I:Nm}{lab:Lab}{fz:Nat->Prop}(hP:∀ch a w,Hn X a->Kh X w0 ch w->Q (.panic ch) a w)(hrun:Kj sp n ops ops.toList E H xs fs)(hW:WFE E H)(hA:At X w0 n I lab fz E H a w)
  (hQ:∀a w I lab fz,WFE (KL xs E) (KM xs H)->At X w0 n I lab fz (KL xs E) (KM xs H) a w->Q .normal a w):(Code.region id ops false).wp P Q a w:=by
 refine wp_region ?_
 have:=V7 (Q:=Q) hP ops.toList 0 E H xs fs a w I lab fz (λj=>by simp[getElem?_toList]) hrun hW hA hQ
 rwa [length_toList,<- List.range_eq_range']at this
end
open Go.RowKit
section
variable {X:Ctx}{w0 w:World}{I:Nm}{lab:Lab}{fz:Nat->Prop}{H:Hp}
def MG(σ:C->C):Ch->Ch
 | .dead=>.dead
 | .vec u z es=>.vec u z (es.map λr=>r.map σ)
 | .mp ag es=>.mp ag (es.map λp=>(p.1,p.2.map σ))
 | .fact p=>.fact p
def Xx(σ:C->C):SV->SV
 | .one c=>.one (σ c)
 | .agg l=>.agg (l.map σ)
 | .tup l=>.tup (l.map fun| .inl c=>.inl (σ c)| .inr l=>.inr (l.map σ))
def KQ(σ:C->C)(H:Hp):Hp:=λk=>(H k).map (MG σ)
theorem Ra{H:Hp}(k:Nat):(KQ σ H k).isSome=(H k).isSome:=by simp[KQ]
structure OvS(σ:C->C):Prop where
 to:∀z es,σ (.ov z es)= .ov z es
 of:∀c z es,σ c= .ov z es->c= .ov z es
theorem PF{A:Type}(f:A->B)(l:List A)(i:Nat)(d:A)(h:i<l.length)(d':B):(l.map f).getD i d'=f (l.getD i d):=by simp_all
theorem eU{h:Bf}(hs:OvS σ){a:Option (Nat×Nat)}{z:List C}{x:Value}(hi:inP p z (es.map λr=>r.map σ)):inP p z es/\(AtP h p a z es x->AtP h p a z (es.map λr=>r.map σ) x):=by
 match p,hi with
 |[(i,j)],hi=>exact⟨by simpa [inP] using hi,λh=>h⟩
 |(i,j)::q::r,hi=>
  obtain⟨h1,h2⟩:=hi
  have h1':i<es.length:=by simpa using h1
  rw[PF _ es i z h1']at h2
  split at h2
  .rename_i z' es' hg
   simp only[getElem?_map,map_eq_some_iff]at hg
   obtain⟨c,hc,hg⟩:=hg
   have:=hs.of _ _ _ hg
   subst this
   refine⟨⟨h1',by rw[hc];exact h2⟩,?_⟩
   rintro ⟨b,off,arr,T,m,y,e1,e2,e3,e4⟩
   rw[hc]at e4
   refine⟨b,off,arr,T,m,y,e1,e2,e3,?_⟩
   rw[PF _ es i z h1']
   simp only[getElem?_map,hc,map_some,hs.to]
   exact e4
  exact h2.elim
theorem vg(hs:OvS σ){z:List C}(hi:inP p z (es.map λr=>r.map σ))(ho:ovP p z (es.map λr=>r.map σ)=true):ovP p z es=true:=by
 have key:∀(r:List C) (j:Nat),ovC ((r.map σ)[j]?)=true->(r.map σ)[j]?=r[j]?:=by
  intro r j h
  rw[getElem?_map]at h ⊢
  cases hr:r[j]? with
  |none=>rfl
  |some c=>
  rw[hr]at h
  cases hc:σ c with
  |ov z' es'=>have:=hs.of c z' es' hc;subst this;simp[hc]
  |_=>simp[hc,ovC]at h
 match p,hi,ho with
 |[(i,j)],hi,ho=>
  have hi':i<es.length:=by simpa [inP] using hi
  simp only[ovP,Et]at ho ⊢
  rw[PF (λr:List C=>r.map σ) es i z hi']at ho
  rw[<- key _ _ ho];exact ho
 |(i,j)::p::r,hi,ho=>
  simp only[inP]at hi
  have hi':i<es.length:=by simpa using hi.1
  have h2:=hi.2
  simp only[ovP,Et]at ho ⊢
  rw[PF (λr:List C=>r.map σ) es i z hi']at ho h2
  have e:((es.getD i z).map σ)[j]?=(es.getD i z)[j]?:=by
   refine key _ _ ?_
   cases hx:((es.getD i z).map σ)[j]? with
   |none=>simp_all
   |some c=>cases c<;>first|rfl|(rw[hx]at h2;exact h2.elim)
  rw[e]at ho;exact ho
theorem lK{h:Bf}(hs:OvS σ){x:Value}(hv:Vw h I H k u p x):Vw h I (KQ σ H) k u p x:=by
 refine⟨hv.1,λu' z es hk=>?_⟩
 simp only[KQ,map_eq_some_iff]at hk
 obtain⟨ch,hk,hc⟩:=hk
 cases ch with
 |vec u2 z2 es2=>
  simp only[MG,Ch.vec.injEq]at hc
  obtain⟨rfl,rfl,rfl⟩:=hc
  obtain⟨g1,g2⟩:=hv.2 _ _ _ hk
  exact⟨g1,λe hi ho=>(eU hs hi).2 (g2 e (eU (h:=h) (a:=(I k).b) (x:=x) hs hi).1 (vg hs hi ho))⟩
 |dead=>simp[MG]at hc
 |fact p=>simp[MG]at hc
 |mp ag es2=>simp[MG]at hc
theorem bZ{h:Bf}(hs:OvS σ){c:C}{x:Value}(r:SC h fz lab I H c x):SC h fz lab I (KQ σ H) c x:=by
 unfold SC at r
 split at r
 .exact lK hs r
 .obtain⟨y,h1,h2⟩:=r;exact⟨y,lK hs h1,h2⟩
 rename_i h1 h2
 have hs:c.stor=true:=by
  exact oM
 exact HN hs r.2
theorem A0i(hA:AtW X w0 I lab fz H w)(σ:C->C)(h1:∀π c x,Den (hp w) fz lab I π c x->Den (hp w) fz lab I π (σ c) x)(hs:∀c,c.stor=true->(σ c).stor=true)(h2:∀c,Dom H c.names->Dom H (σ c).names):
  AtW X w0 I lab fz (KQ σ H) w:=by
 have hd:∀l,Dom H l->Dom (KQ σ H) l:=λl hl k hk=>by rw[Ra];exact hl k hk
 refine⟨λk ch hk=>?_,λk ch hk=>?_,hA.own,hA.fzl,hA.fzo,hA.kept,λp hp'=>⟨by rw[Ra];exact(hA.fix p hp').1,(hA.fix p hp').2⟩⟩
 .simp only[KQ,map_eq_some_iff]at hk
  obtain⟨c0,hk,rfl⟩:=hk
  have h0:=hA.h k c0 hk
  cases c0 with
  |dead=>trivial
  |fact p=>exact h0
  |vec u z es=>
   obtain⟨m1,m2,m3⟩:=h0
   refine⟨m1,m2,?_⟩
   rcases m3 with⟨rfl,h4⟩|⟨b,off,cap,arr,T,h3,h4,h5,h6,h7,h8⟩
   .exact .inl ⟨rfl,h4⟩
   .refine .inr ⟨b,off,cap,arr,T,by simpa using h3,h4,h5,h6,by simpa using h7,λi cs hi=>?_⟩
    simp only[getElem?_map,map_eq_some_iff]at hi
    obtain⟨r,hi,rfl⟩:=hi
    obtain⟨g1,g2⟩:=h8 i r hi
    refine⟨by simpa using g1,λj c hj=>?_⟩
    simp only[getElem?_map,map_eq_some_iff]at hj
    obtain⟨c',hj,rfl⟩:=hj
    obtain⟨y,y1,y2⟩:=g2 j c' hj
    exact⟨y,y1,h1 _ _ _ y2⟩
  |mp ag es=>
   obtain⟨r,entries,clock,e1,e2,e3,e4,e5⟩:=h0
   refine⟨r,entries,clock,e1,e2,e3,by simpa using e4,λi p hi=>?_⟩
   simp only[getElem?_map,map_eq_some_iff]at hi
   obtain⟨q,hi,rfl⟩:=hi
   obtain⟨e,g1,g2,g3⟩:=e5 i q hi
   refine⟨e,g1,g2,?_⟩
   cases ag with
   |true=>
    obtain⟨arr,k1,k2,k3⟩:=g3
    refine⟨arr,k1,by simpa using k2,λj c hj=>?_⟩
    simp only[getElem?_map,map_eq_some_iff]at hj
    obtain⟨c',hj,rfl⟩:=hj
    obtain⟨y,y1,y2,y3⟩:=k3 j c' hj
    exact⟨y,y1,hs _ y2,h1 _ _ _ y3⟩
   |false=>
    obtain⟨c,k1,k2,k3⟩:=g3
    exact⟨σ c,by simp[k1],hs _ k2,h1 _ _ _ k3⟩
 .simp only[KQ,map_eq_some_iff]at hk
  obtain⟨c0,hk,rfl⟩:=hk
  have h0:=hA.wf k c0 hk
  apply hd
  cases c0 with
  |dead=>exact h0
  |fact p=>exact h0
  |vec u z es=>
   exact kO
  |mp ag es=>
   exact kO
theorem A0j{h:Bf}(hs:OvS σ)(h1:∀c x,SC h fz lab I H c x->SC h fz lab I H (σ c) x){x:Value}(r:Ap h fz lab I H v x):Ap h fz lab I (KQ σ H) (Xx σ v) x:=by
 have cs:∀{l:List C} {arr:Array Value},ER h fz lab I H l arr->ER h fz lab I (KQ σ H) (l.map σ) arr:=by
  intro l arr r
  refine⟨by simpa using r.1,λj c hj=>?_⟩
  simp only[getElem?_map,map_eq_some_iff]at hj
  obtain⟨c',hj,rfl⟩:=hj
  obtain⟨y,y1,y2⟩:=r.2 j c' hj
  exact⟨y,y1,bZ hs (h1 _ _ y2)⟩
 cases v with
 |one c=>exact bZ hs (h1 _ _ r)
 |agg l=>obtain⟨arr,e1,e2⟩:=r;exact⟨arr,e1,cs e2⟩
 |tup l=>
 obtain⟨arr,e1,e2,e3⟩:=r
 refine⟨arr,e1,by simpa using e2,λj p hj=>?_⟩
 simp only[getElem?_map,map_eq_some_iff]at hj
 obtain⟨p',hj,rfl⟩:=hj
 obtain⟨y,y1,y2⟩:=e3 j p' hj
 refine⟨y,y1,?_⟩
 cases p' with
 |inl c=>exact bZ hs (h1 _ _ y2)
 |inr l=>obtain⟨arr,e1,e2⟩:=y2;exact⟨arr,e1,cs e2⟩
theorem vh(hA:AtW X w0 I lab fz H w){n i j un:Nat}{z:List C}{esn:List (List C)}(hk:H k=some (.vec u z es))(hi:i<es.length)(hj:(es.getD i z)[j]?=some (.s n))(hn:H n=some (.vec un zn esn))(hne:n≠k)
  (hcl:∀(i j:Nat) (cs:List C) (c:C),esn[i]?=some cs->cs[j]?=some c->c.names=[]) :
  ∃lab',AtW X w0 I lab' fz (upd (upd H n .dead) k (.vec (u+1) z (es.set i ((es.getD i z).set j (.ov zn esn))))) w/\Pres (hp w) (hp w) fz fz I I H (upd (upd H n .dead) k (.vec (u+1) z (es.set i ((es.getD i z).set j (.ov zn esn))))):=by
 let lab':Lab:=λb=>match lab b with
  |some (m::ρ)=>if m=n then some (k::i::j::ρ) else some (m::ρ)
  |x=>x
 have hzz:∀b,fz b->fz b/\hp w b=hp w b:=λb hb=>⟨hb,rfl⟩
 have hlo:∀m,m≠n->∀b ρ,lab b=some ([m]++ρ)->lab' b=some ([m]++ρ):=by intro m h b ρ hb;simp[lab',hb,h]
 have hln:∀b ρ,lab b=some ([n]++ρ)->lab' b=some (([k]++[i,j])++ρ):=by intro b ρ hb;simp[lab',hb]
 have hsome:∀b π,lab' b=some π->∃π',lab b=some π':=by grind
 obtain⟨hbv,hbase⟩:=Ig hA hk
 obtain⟨n1,n2,n3⟩:=hA.h n _ hn
 have hself:∀c,upd (upd H n .dead) k c k=some c:=λc=>BM _ _ _
 have hnd:∀c,upd (upd H n .dead) k c n=some .dead:=λc=>by rw[Bm _ _ hne,BM]
 have hoth:∀c m,m≠k->m≠n->upd (upd H n .dead) k c m=H m:=λc m h1 h2=>by rw[Bm _ _ h1,Bm _ _ h2]
 have hd:∀l c,Dom H l->Dom (upd (upd H n .dead) k c) l:=λl c hl=>Bc (Bc hl _ _) _ _
 obtain⟨yv,hyv⟩:=Qh [(i,j)] hbv hi (by simpa only[Et] using hj)
 have hden:=Jg [(i,j)] hbv hi (by simpa only[Et] using hj) hyv
 have hy:yv=(I n).v:=by cases hden;rfl
 refine⟨lab',⟨λk2 ch h=>?_,λk2 ch h=>?_,λb π hb=>?_,λb hb=>⟨(hA.fzl b hb).1,by have:=(hA.fzl b hb).2;simp[lab',this]⟩,hA.fzo,hA.kept,λp hp'=>⟨?_,(hA.fix p hp').2⟩⟩,hzz,λ_ _=>rfl,?_⟩
 .by_cases e:k2=k
  .subst e
   rw[hself]at h;simp only[jS]at h;subst h
   obtain⟨m1,m2,m3⟩:=hA.h k2 _ hk
   refine⟨m1,m2,Ly hzz hbv hi hj hyv (λb ρ hb _=>⟨hlo k2 (Ne.symm hne) b ρ hb,rfl⟩) (λ_ _ _ _ _ _ _ _=>rfl) ?_⟩
   rw[hy]
   exact WC (IZ hzz n3 (λb ρ hb=>⟨hln b ρ hb,rfl⟩) λ_ _ _ _ _ _ _ _=>rfl) hcl
  .by_cases e2:k2=n
   .subst e2;rw[hnd]at h;simp only[jS]at h;subst h;trivial
   .rw[hoth _ k2 e e2]at h
    exact Lw hA h hzz (λ_ _=>rfl) λb ρ hb=>⟨hlo k2 e2 b ρ hb,rfl⟩
 .by_cases e:k2=k
  .subst e
   rw[hself]at h;simp only[jS]at h;subst h
   refine hd _ _ λm hm=>?_
   obtain⟨r,hr,hm⟩:=mem_flatMap.1 hm
   obtain⟨c,hc,hm⟩:=mem_flatMap.1 hm
   obtain⟨i2,hi2⟩:=mem_iff_getElem?.1 hr
   obtain⟨j2,hj2⟩:=mem_iff_getElem?.1 hc
   rcases HR [(i,j)] (c1:=.ov zn esn) (by simpa only[He] using hi2) hj2 m hm with h|⟨r0,hr0,c0,hc0,h⟩
   .cases h
   .exact p8
  .by_cases e2:k2=n
   .subst e2;rw[hnd]at h;simp only[jS]at h;subst h;intro m hm;cases hm
   .rw[hoth _ k2 e e2]at h
    exact hd _ _ (hA.wf k2 ch h)
 .obtain⟨π',h⟩:=hsome b π hb;exact hA.own b π' h
 .exact kH
 .intro m u2 p x hm hv
  by_cases e:m=k
  .subst e;exact L1 hA hk (hself _) (by omega) hv
  .by_cases e2:m=n
   .subst e2;exact Jz (hnd _) hv
   .exact Fg hA (hoth _ m e e2) rfl (λ_ _ _=>rfl) hv
theorem vi(hA:AtW X w0 I lab fz H w){i:Nat}{z:List C}(zn:List C)(hk:H k=some (.vec u z es))(hi:i<es.length)(hj:(es.getD i z)[j]?=some (.v (.slice none 0 0))):
  AtW X w0 I lab fz (upd H k (.vec (u+1) z (es.set i ((es.getD i z).set j (.ov zn []))))) w/\Pres (hp w) (hp w) fz fz I I H (upd H k (.vec (u+1) z (es.set i ((es.getD i z).set j (.ov zn []))))):=by
 have hzz:∀b,fz b->fz b/\hp w b=hp w b:=λb hb=>⟨hb,rfl⟩
 obtain⟨hbv,hbase⟩:=Ig hA hk
 have hself:∀c,upd H k c k=some c:=λc=>BM _ _ _
 have hd:∀l c,Dom H l->Dom (upd H k c) l:=λl c hl=>Bc hl _ _
 obtain⟨yv,hyv⟩:=Qh [(i,j)] hbv hi (by simpa only[Et] using hj)
 have hden:=Jg [(i,j)] hbv hi (by simpa only[Et] using hj) hyv
 have hy:yv= .slice none 0 0:=by cases hden;rfl
 refine⟨⟨λk2 ch h=>?_,λk2 ch h=>?_,hA.own,hA.fzl,hA.fzo,hA.kept,λp hp'=>⟨?_,(hA.fix p hp').2⟩⟩,hzz,λ_ _=>rfl,?_⟩
 .by_cases e:k2=k
  .subst e
   rw[hself]at h;simp only[jS]at h;subst h
   obtain⟨m1,m2,m3⟩:=hA.h k2 _ hk
   refine⟨m1,m2,Ly hzz hbv hi hj hyv (λb ρ hb _=>⟨hb,rfl⟩) (λ_ _ _ _ _ _ _ _=>rfl) ?_⟩
   rw[hy];exact .nil _ _
  .rw[Bm _ _ e]at h
   exact hA.h k2 ch h
 .by_cases e:k2=k
  .subst e
   rw[hself]at h;simp only[jS]at h;subst h
   refine hd _ _ λm hm=>?_
   obtain⟨r,hr,hm⟩:=mem_flatMap.1 hm
   obtain⟨c,hc,hm⟩:=mem_flatMap.1 hm
   obtain⟨i2,hi2⟩:=mem_iff_getElem?.1 hr
   obtain⟨j2,hj2⟩:=mem_iff_getElem?.1 hc
   rcases HR [(i,j)] (c1:=.ov zn []) (by simpa only[He] using hi2) hj2 m hm with h|⟨r0,hr0,c0,hc0,h⟩
   .cases h
   .exact p8
  .rw[Bm _ _ e]at h
   exact hd _ _ (hA.wf k2 ch h)
 .exact kH
 .exact jz
theorem vj(hA:AtW X w0 I lab fz H w){i:Nat}{z:List C}{t ut:Nat}{zt:List C}(hk:H k=some (.vec u z es))(hi:i<es.length)(hj:(es.getD i z)[j]?=some (.v (.slice none 0 0)))(ht:H t=some (.vec ut zt []))(hv0:(I t).v= .slice none 0 0):
  AtW X w0 I lab fz (upd H k (.vec (u+1) z (es.set i ((es.getD i z).set j (.s t))))) w/\Pres (hp w) (hp w) fz fz I I H (upd H k (.vec (u+1) z (es.set i ((es.getD i z).set j (.s t))))):=by
 have hzz:∀b,fz b->fz b/\hp w b=hp w b:=λb hb=>⟨hb,rfl⟩
 obtain⟨hbv,hbase⟩:=Ig hA hk
 have hself:∀c,upd H k c k=some c:=λc=>BM _ _ _
 have hd:∀l c,Dom H l->Dom (upd H k c) l:=λl c hl=>Bc hl _ _
 obtain⟨yv,hyv⟩:=Qh [(i,j)] hbv hi (by simpa only[Et] using hj)
 have hden:=Jg [(i,j)] hbv hi (by simpa only[Et] using hj) hyv
 have hy:yv= .slice none 0 0:=by cases hden;rfl
 refine⟨⟨λk2 ch h=>?_,λk2 ch h=>?_,hA.own,hA.fzl,hA.fzo,hA.kept,λp hp'=>⟨?_,(hA.fix p hp').2⟩⟩,hzz,λ_ _=>rfl,?_⟩
 .by_cases e:k2=k
  .subst e
   rw[hself]at h;simp only[jS]at h;subst h
   obtain⟨m1,m2,m3⟩:=hA.h k2 _ hk
   refine⟨m1,m2,Ly hzz hbv hi hj hyv (λb ρ hb _=>⟨hb,rfl⟩) (λ_ _ _ _ _ _ _ _=>rfl) ?_⟩
   rw[hy,<- hv0];exact .s _ _
  .rw[Bm _ _ e]at h
   exact hA.h k2 ch h
 .by_cases e:k2=k
  .subst e
   rw[hself]at h;simp only[jS]at h;subst h
   refine hd _ _ λm hm=>?_
   obtain⟨r,hr,hm⟩:=mem_flatMap.1 hm
   obtain⟨c,hc,hm⟩:=mem_flatMap.1 hm
   obtain⟨i2,hi2⟩:=mem_iff_getElem?.1 hr
   obtain⟨j2,hj2⟩:=mem_iff_getElem?.1 hc
   rcases HR [(i,j)] (c1:=.s t) (by simpa only[He] using hi2) hj2 m hm with h|⟨r0,hr0,c0,hc0,h⟩
   .simp only[C.names,mem_singleton]at h;subst h;rw[ht];rfl
   .exact p8
  .rw[Bm _ _ e]at h
   exact hd _ _ (hA.wf k2 ch h)
 .exact kH
 .exact jz
theorem vk(hA:AtW X w0 I lab fz H w){i:Nat}{z:List C}{c0 c1:C}{y:Value}(hk:H k=some (.vec u z es))(hi:i<es.length)(hj:(es.getD i z)[j]?=some c0)(hyv:AtP (hp w) [(i,j)] (I4 (I k).v) z es y)(h1:Den (hp w) fz lab I ([k]++[i,j]) c1 y)(hdm:Dom H c1.names):
  AtW X w0 I lab fz (upd H k (.vec (u+1) z (es.set i ((es.getD i z).set j c1)))) w/\Pres (hp w) (hp w) fz fz I I H (upd H k (.vec (u+1) z (es.set i ((es.getD i z).set j c1)))):=by
 have hzz:∀b,fz b->fz b/\hp w b=hp w b:=λb hb=>⟨hb,rfl⟩
 obtain⟨hbv,hbase⟩:=Ig hA hk
 have hself:∀c,upd H k c k=some c:=λc=>BM _ _ _
 have hd:∀l c,Dom H l->Dom (upd H k c) l:=λl c hl=>Bc hl _ _
 refine⟨⟨λk2 ch h=>?_,λk2 ch h=>?_,hA.own,hA.fzl,hA.fzo,hA.kept,λp hp'=>⟨?_,(hA.fix p hp').2⟩⟩,hzz,λ_ _=>rfl,?_⟩
 .by_cases e:k2=k
  .subst e
   rw[hself]at h;simp only[jS]at h;subst h
   obtain⟨m1,m2,m3⟩:=hA.h k2 _ hk
   exact⟨m1,m2,Ly hzz hbv hi hj hyv (λb ρ hb _=>⟨hb,rfl⟩) (λ_ _ _ _ _ _ _ _=>rfl) h1⟩
  .rw[Bm _ _ e]at h
   exact hA.h k2 ch h
 .by_cases e:k2=k
  .subst e
   rw[hself]at h;simp only[jS]at h;subst h
   refine hd _ _ λm hm=>?_
   obtain⟨r,hr,hm⟩:=mem_flatMap.1 hm
   obtain⟨c,hc,hm⟩:=mem_flatMap.1 hm
   obtain⟨i2,hi2⟩:=mem_iff_getElem?.1 hr
   obtain⟨j2,hj2⟩:=mem_iff_getElem?.1 hc
   rcases HR [(i,j)] (c1:=c1) (by simpa only[He] using hi2) hj2 m hm with h|⟨r0,hr0,c0,hc0,h⟩
   .exact hdm m h
   .exact p8
  .rw[Bm _ _ e]at h
   exact hd _ _ (hA.wf k2 ch h)
 .exact kH
 .exact jz
theorem A0k(hA:AtW X w0 I lab fz H w){i t:Nat}{z:List C}{esn:List (List C)}(ht:H t=none)(hk:H k=some (.vec u z es))(hi:i<es.length)(hj:(es.getD i z)[j]?=some (.ov zn esn)):
  ∃I' lab',AtW X w0 I' lab' fz (upd (upd H t (.vec 0 zn esn)) k (.vec (u+2) z (es.set i ((es.getD i z).set j (.s t))))) w/\Pres (hp w) (hp w) fz fz I I' H (upd (upd H t (.vec 0 zn esn)) k (.vec (u+2) z (es.set i ((es.getD i z).set j (.s t))))):=by
 have hkt:k≠t:=by rintro rfl;rw[ht]at hk;cases hk
 obtain⟨hbv,hbase⟩:=Ig hA hk
 obtain⟨y,hy⟩:=Qh [(i,j)] hbv hi (by simpa only[Et] using hj)
 obtain⟨lab',nv,n1,n2,r1,r2⟩:=eH hA (p:=[(i,j)]) ht hk hi (by simpa only[Et] using hj) (by rw[<- hbase];exact hy)
 have r2:=r2.pres ht
 simp only[He]at r1 r2
 have hlt:j<(es.getD i z).length:=(List.getElem?_eq_some_iff.1 hj).1
 have hk2:upd (upd H k (.vec (u+1) z (es.set i ((es.getD i z).set j .any)))) t (.vec 0 zn esn) k=some (.vec (u+1) z (es.set i ((es.getD i z).set j .any))):=by rw[Bm _ _ hkt,BM]
 have hg:(es.set i ((es.getD i z).set j .any)).getD i z=(es.getD i z).set j .any:=by simp[List.getD,hi]
 have hIk:(λn=>if n=t then nv else I n) k=I k:=by simp[hkt]
 obtain⟨r3,r4⟩:=vk r1 (c0:=.any) (c1:=.s t) (y:=y) (i:=i) (j:=j) hk2 (by simpa using hi) (by rw[hg];exact List.getElem?_set_self hlt) (by have h:=hy;simp only[AtP]at h ⊢;simpa [hkt] using h)
  (by have:=Den.s (h:=hp w) (fz:=fz) (lab:=lab') (I:=λn=>if n=t then nv else I n) ([k]++[i,j]) t;simpa [n2] using this)
  (by intro m hm;simp only[C.names,mem_singleton]at hm;subst hm;rw[BM];rfl)
 have e:upd (upd (upd H k (.vec (u+1) z (es.set i ((es.getD i z).set j .any)))) t (.vec 0 zn esn)) k (.vec (u+1+1) z ((es.set i ((es.getD i z).set j .any)).set i (((es.set i ((es.getD i z).set j .any)).getD i z).set j (.s t))))=upd (upd H t (.vec 0 zn esn)) k (.vec (u+2) z (es.set i ((es.getD i z).set j (.s t)))):=by
  rw[hg,set_set,set_set]
  funext m
  unfold upd
  by_cases e1:m=k
  .simp[e1]
  .simp[e1]
 rw[e]at r3 r4
 exact⟨_,lab',r3,r2.trans r4 λm hm=>Bc (l:=[m]) (Bc (l:=[m]) (by intro q hq;simp at hq;subst hq;exact hm) k _) t _ m (by simp)⟩
end
open Go.RowKit
def lkp{α:Type}:List (Nat×α)->Nat->Option α
 |[],_=>none
 |(k,v)::r,t=>if t=k then some v else lkp r t
theorem E6(k:Nat)(v:α)(r:List (Nat×α)):lkp ((k,v)::r)=upd (lkp r) k v:=by
 funext t;simp[lkp,upd]
theorem M1{α:Type}:∀{l:List (Nat×α)} {t:Nat} {v:α},lkp l t=some v->(t,v)∈l
 |[],t,v,h=>by simp[lkp]at h
 |(k,u)::r,t,v,h=>by
  simp only[lkp]at h
  split at h
  .simp_all
  exact mem_cons_of_mem _ (M1 h)
theorem Xy{α β:Type}(f:α->β)(t:Nat):∀l:List (Nat×α),lkp (l.map λp=>(p.1,f p.2)) t=(lkp l t).map f
 |[]=>rfl
 |(k,u)::r=>by
  simp only[map_cons,lkp]
  split
  .rfl
  exact Xy f t r
structure St where
 e:List (Nat×Bool×SV)
 h:List (Nat×Ch)
def ba:List (Nat×Ch)->List (Nat×Ch)->List (Nat×Ch)
 |h,[]=>h
 |h,p::r=>ba (p::h) r
theorem bb:∀(us h:List (Nat×Ch)),lkp (ba h us)=updH (lkp h) us
 |[],h=>rfl
 |(k,c)::r,h=>by simp only[ba,updH,bb r,E6]
def pL:List (Nat×Bool×SV)->Option (Nat×Bool×SV)->List (Nat×Bool×SV)
 |l,some p=>p::l
 |l,none=>l
def St.app(s:St)(x:Wr):St:=⟨pL s.e x.slot,ba s.h x.us⟩
theorem rT(s:St)(x:Wr):lkp (s.app x).e=x.E (lkp s.e):=by
 unfold St.app Wr.E pL
 cases x.slot with
 |none=>rfl
 |some p=>obtain⟨t,e⟩:=p;exact E6 t e s.e
theorem rU(s:St)(x:Wr):lkp (s.app x).h=x.H (lkp s.h):=bb _ _
def Holds(X:Ctx)(w0:World)(n:Nat)(s:St)(a:Act)(w:World):Prop:=
 WFE (lkp s.e) (lkp s.h)/\∃I lab fz,At X w0 n I lab fz (lkp s.e) (lkp s.h) a w
def Ent(X:Ctx)(w0:World)(n:Nat)(s t:St):Prop:=∀a w,Holds X w0 n s a w->Holds X w0 n t a w
def fzC(k:Nat)(z:List D)(es:List (List D)):C->C
 | .s n=>if n=k then .d (.sl z es) else .s n
 | .p n i j=>if n=k then (if i<es.length then .d (.pt (some ((es.getD i z).drop j))) else .any) else .p n i j
 | .vw n u p=>if n=k then .any else .vw n u p
 | .q n u p s m o=>if n=k then .any else .q n u p s m o
 | .fn f caps=>if (caps.flatMap capN).contains k=true then .any else .fn f caps
 |c=>c
def mvC(k t:Nat):C->C
 | .s n=>if n=k then .s t else .s n
 | .p n i j=>if n=k then .p t i j else .p n i j
 | .vw n u p=>if n=k then .any else .vw n u p
 | .q n u p s m o=>if n=k then .any else .q n u p s m o
 | .fn f caps=>if (caps.flatMap capN).contains k=true then .any else .fn f caps
 |c=>c
def I7(k:Nat)(es:List (List UInt8×Value)):C->C
 | .s n=>if n=k then .d (.mp es) else .s n
 | .p n i j=>if n=k then .any else .p n i j
 | .vw n u p=>if n=k then .any else .vw n u p
 | .q n u p s m o=>if n=k then .any else .q n u p s m o
 | .fn f caps=>if (caps.flatMap capN).contains k=true then .any else .fn f caps
 |c=>c
def Rb:List (List UInt8×List C)->Option (List (List UInt8×Value))
 |[]=>some []
 |(k,[.v x])::r=>(Rb r).map ((k,x)::·)
 |_::_=>none
inductive Cmd where
 |fz (k:Nat)
 |mv (k t:Nat)
 |nil (slot t:Nat) (z:List C)
 |fold (k i j:Nat)
 |nilc (k i j:Nat) (z:List C)
 |nilr (k i j t:Nat) (z:List C)
 |unr (k i j t:Nat)
 |fzm (k:Nat)
 |flag (t:Nat)
def Xz(σ:C->C)(l:List (Nat×Bool×SV)):List (Nat×Bool×SV):=l.map λp=>(p.1,p.2.1,Xx σ p.2.2)
def PG(σ:C->C)(l:List (Nat×Ch)):List (Nat×Ch):=l.map λp=>(p.1,MG σ p.2)
theorem be(σ:C->C)(l:List (Nat×Bool×SV))(t:Nat):lkp (Xz σ l) t=(lkp l t).map λp=>(p.1,Xx σ p.2):=Xy (λp:Bool×SV=>(p.1,Xx σ p.2)) t l
theorem V8(σ:C->C)(l:List (Nat×Ch)):lkp (PG σ l)=KQ σ (lkp l):=by
 funext t;exact Xy (MG σ) t l
def fzS(k:Nat)(s:St):Option (List D)->Option (List (List D))->Option St
 |some z,some es=>some ⟨Xz (fzC k z es) s.e,PG (fzC k z es) ((k,.dead)::s.h)⟩
 |_,_=>none
def pM(k:Nat)(s:St):Option (List (List UInt8×Value))->Option St
 |some es=>some ⟨Xz (I7 k es) s.e,PG (I7 k es) ((k,.dead)::s.h)⟩
 |_=>none
def U3(es:List (List C)):Bool:=es.all λr=>r.all λc=>c.names.isEmpty
def gm(s:St)(k i j u:Nat)(z:List C)(es:List (List C))(r:List C)(n:Nat):Option Ch->Option St
 |some (.vec _ zn esn)=>if U3 esn=true/\n≠k then some ⟨s.e,(k,.vec (u+1) z (es.set i (r.set j (.ov zn esn))))::(n,.dead)::s.h⟩ else none
 |_=>none
def B0i(s:St)(k i j u:Nat)(z:List C)(es:List (List C)):Option (List C)->Option C->Option St
 |some r,some (.s n)=>gm s k i j u z es r n (lkp s.h n)
 |_,_=>none
def gq(s:St)(k i j u:Nat)(z:List C)(es:List (List C))(zn:List C):Option (List C)->Option C->Option St
 |some r,some (.v (.slice none 0 0))=>some ⟨s.e,(k,.vec (u+1) z (es.set i (r.set j (.ov zn []))))::s.h⟩
 |_,_=>none
def gr(s:St)(k i j t u:Nat)(z:List C)(es:List (List C))(zn:List C):Option (List C)->Option C->Option St
 |some r,some (.v (.slice none 0 0))=>if t≠k then some ⟨s.e,(k,.vec (u+1) z (es.set i (r.set j (.s t))))::(t,.vec 0 zn [])::s.h⟩ else none
 |_,_=>none
def pN(s:St)(k i j t u:Nat)(z:List C)(es:List (List C)):Option (List C)->Option C->Option St
 |some r,some (.ov zn esn)=>some ⟨s.e,(k,.vec (u+2) z (es.set i (r.set j (.s t))))::(t,.vec 0 zn esn)::s.h⟩
 |_,_=>none
def Cmd.run(s:St):Cmd->Option St
 | .fz k=>match lkp s.h k with
  |some (.vec _ z es)=>fzS k s (GD z) (EZ es)
  |_=>none
 | .mv k t=>match lkp s.h t,lkp s.h k with
  |none,some (.vec _ z es)=>some ⟨Xz (mvC k t) s.e,PG (mvC k t) ((t,.vec 0 z es)::(k,.dead)::s.h)⟩
  |_,_=>none
 | .nil slot t z=>match lkp s.h t,lkp s.e slot with
  |none,some (true,.one (.v (.slice none 0 0)))=>some ⟨(slot,true,.one (.s t))::s.e,(t,.vec 0 z [])::s.h⟩
  |_,_=>none
 | .fold k i j=>match lkp s.h k with
  |some (.vec u z es)=>B0i s k i j u z es (es[i]?) (((es[i]?).getD z)[j]?)
  |_=>none
 | .nilc k i j zn=>match lkp s.h k with
  |some (.vec u z es)=>gq s k i j u z es zn (es[i]?) (((es[i]?).getD z)[j]?)
  |_=>none
 | .nilr k i j t zn=>match lkp s.h t,lkp s.h k with
  |none,some (.vec u z es)=>gr s k i j t u z es zn (es[i]?) (((es[i]?).getD z)[j]?)
  |_,_=>none
 | .unr k i j t=>match lkp s.h t,lkp s.h k with
  |none,some (.vec u z es)=>pN s k i j t u z es (es[i]?) (((es[i]?).getD z)[j]?)
  |_,_=>none
 | .fzm k=>match lkp s.h k with
  |some (.mp false es)=>pM k s (Rb es)
  |_=>none
 | .flag t=>match lkp s.h (JD t) with
  |none=>some ⟨s.e,(JD t,.fact True)::s.h⟩
  |_=>none
def JE(s:St):List Cmd->Option St
 |[]=>some s
 |c::r=>match c.run s with
  |some s'=>JE s' r
  |none=>none
section
variable {X:Ctx}{w0:World}{n:Nat}
theorem Y0{s:St}{hl:List (Nat×Ch)}{a:Act}{w:World}{I:Nm}{lab:Lab}{fz:Nat->Prop}(hA:At X w0 n I lab fz (lkp s.e) (lkp hl) a w)(hW:WFE (lkp s.e) (lkp hl))
  (h1:∀π c x,Den (hp w) fz lab I π c x->Den (hp w) fz lab I π (σ c) x) (h1':∀c x,SC (hp w) fz lab I (lkp hl) c x->SC (hp w) fz lab I (lkp hl) (σ c) x) (hs:∀c,c.stor=true->(σ c).stor=true) (h2:∀c,Dom (lkp hl) c.names->Dom (lkp hl) (σ c).names) (hov:OvS σ) :
  Holds X w0 n ⟨Xz σ s.e,PG σ hl⟩ a w:=by
 refine⟨?_,I,lab,fz,hA.n,hA.d,?_,?_⟩
 .intro t g v ht hg
  simp only[be,map_eq_some_iff,jP]at ht
  obtain⟨⟨g0,v0⟩,ht,rfl,rfl⟩:=ht
  have h0:=hW t g0 v0 ht hg
  show Dom (lkp (PG σ hl)) _
  rw[V8]
  intro k hk
  rw[Ra]
  have key:∀l:List C,(∀c∈l,Dom (lkp hl) c.names)->∀k∈(l.map σ).flatMap C.names,(lkp hl k).isSome=true:=by
   intro l hl k hk
   obtain⟨c,hc,hk⟩:=mem_flatMap.1 hk
   obtain⟨c',hc',rfl⟩:=mem_map.1 hc
   exact h2 c' (hl c' hc') k hk
  cases v0 with
  |one c=>exact h2 c h0 k hk
  |agg l=>exact key l (λc hc m hm=>h0 m (mem_flatMap.2 ⟨c,hc,hm⟩)) k hk
  |tup l=>
   simp only[Xx,SV.names]at hk
   obtain⟨p,hp',hk⟩:=mem_flatMap.1 hk
   obtain⟨q,hq,rfl⟩:=mem_map.1 hp'
   cases q with
   |inl c=>exact h2 c (λm hm=>h0 m (mem_flatMap.2 ⟨_,hq,hm⟩)) k hk
   |inr l=>exact key l (λc hc m hm=>h0 m (mem_flatMap.2 ⟨_,hq,mem_flatMap.2 ⟨c,hc,hm⟩⟩)) k hk
 .intro t g v ht
  simp only[be,map_eq_some_iff,jP]at ht
  obtain⟨⟨g0,v0⟩,ht,rfl,rfl⟩:=ht
  obtain⟨x,hx,hd⟩:=hA.e t g0 v0 ht
  refine⟨x,hx,?_⟩
  cases g0 with
  |false=>exact hd
  |true=>
   simp only[if_true]at hd ⊢
   rw[V8]
   exact A0j hov h1' hd
 .show AtW X w0 I lab fz (lkp (PG σ hl)) w
  rw[V8]
  exact A0i hA.m σ h1 hs h2
theorem A0l(k:Nat)(z:List D)(es:List (List D)):OvS (fzC k z es):=by
 refine⟨λ_ _=>rfl,λc z2 es2 h=>?_⟩
 unfold fzC at h
 repeat' split at h
 all_goals first|exact h|cases h
theorem A0m(k t:Nat):OvS (mvC k t):=by
 refine⟨λ_ _=>rfl,λc z2 es2 h=>?_⟩
 unfold mvC at h
 repeat' split at h
 all_goals first|exact h|cases h
theorem pO{I:Nm}{lab:Lab}{fz:Nat->Prop}{H:Hp}{w:World}(hA:AtW X w0 I lab fz H w){t:Nat}(ht:H t=none){p:Prop}(hp':p):AtW X w0 I lab fz (upd H t (.fact p)) w/\Pres (hp w) (hp w) fz fz I I H (upd H t (.fact p)):=by
 refine⟨⟨λk ch hk=>?_,λk ch hk=>?_,hA.own,hA.fzl,hA.fzo,hA.kept,λq hq=>⟨?_,(hA.fix q hq).2⟩⟩,⟨λb hb=>⟨hb,rfl⟩,λ_ _=>rfl,λk u p x hk hv=>?_⟩⟩
 .by_cases e:k=t
  .subst e;rw[BM]at hk;simp only[jS]at hk;subst hk;exact hp'
  rw[Bm _ _ e]at hk;exact hA.h k ch hk
 .exact AAf
 .exact Bc (l:=[q.1]) (by intro n hn;simp at hn;subst hn;exact(hA.fix q hq).1) _ _ q.1 (by simp)
 have e:k≠t:=by rintro rfl;rw[ht]at hk;cases hk
 exact kF
theorem pP{s s':St}{t:Nat}(h:Cmd.run s (.flag t)=some s'):Ent X w0 n s s':=by
 intro a w hh
 obtain⟨hW,I,lab,fz,hA⟩:=hh
 simp only[Cmd.run]at h
 split at h
 .rename_i hk
  simp only[jS]at h
  subst h
  obtain⟨h1,h2⟩:=pO hA.m hk (p:=True) trivial
  have hup:lkp ((JD t,Ch.fact True)::s.h)=upd (lkp s.h) (JD t) (.fact True):=E6 _ _ _
  refine⟨?_,I,lab,fz,?_⟩
  .show WFE (lkp s.e) (lkp ((JD t,Ch.fact True)::s.h))
   rw[hup];exact λt g v ht hg=>Bc (hW t g v ht hg) _ _
  show At X w0 n I lab fz (lkp s.e) (lkp ((JD t,Ch.fact True)::s.h)) a w
  exact AAw
 cases h
theorem A0n{s s':St}(h:Cmd.run s (.fz k)=some s'):Ent X w0 n s s':=by
 intro a w hh
 obtain⟨hW,I,lab,fz,hA⟩:=hh
 simp only[Cmd.run]at h
 split at h
 .rename_i u z es hk
  unfold fzS at h
  split at h
  .rename_i z' es' hz he
   simp only[jS]at h
   subst h
   obtain⟨lab',fz',h1,h2,h3,h4⟩:=ZU hA.m hk hz he
   have hup:lkp ((k,Ch.dead)::s.h)=upd (lkp s.h) k .dead:=E6 _ _ _
   have hA1:At X w0 n I lab' fz' (lkp s.e) (lkp ((k,.dead)::s.h)) a w:=by
    exact AAw
   have hW1:WFE (lkp s.e) (lkp ((k,.dead)::s.h)):=by
    rw[hup];exact λt g v ht hg=>Bc (hW t g v ht hg) _ _
   have key:∀π c x,Den (hp w) fz' lab' I π c x->Den (hp w) fz' lab' I π (fzC k z' es' c) x:=by
    intro π c x r
    have ho:=Jt r
    unfold fzC
    split
    .split
     .rename_i m e;subst e;cases r;exact .d _ _ _ h3
     exact r
    .split
     .rename_i m i j e
      subst e
      cases r
      split
      .rename_i hi;exact .d _ _ _ (h4 i j hi)
      exact .any _ _ ho
     exact r
    .exact AAo
    .exact AAo
    .split
     .exact .any _ _ ho
     exact r
    exact r
   have hst:∀c,c.stor=true->(fzC k z' es' c).stor=true:=by
    intro c hc
    unfold fzC
    repeat' split
    all_goals first|rfl|exact hc
   refine Y0 hA1 hW1 key ?_ hst ?_ (A0l _ _ _)
   .intro c x r
    have hone:=Qc r
    by_cases hcs:c.stor=true
    .exact HN (hst c hcs) (key _ _ _ (Ju hcs r))
    cases c<;>first|(exact absurd rfl hcs)|skip
    .exact absurd r.1 (by simp[C.flat])
    .rename_i m u2 p
     simp only[fzC]
     exact p5
    rename_i m u2 p s2 m2 o
    simp only[fzC]
    exact p5
   intro c hc m hm
   refine hc m ?_
   unfold fzC at hm
   exact AAj
  cases h
 cases h
theorem A0o{s s':St}{t:Nat}(h:Cmd.run s (.mv k t)=some s'):Ent X w0 n s s':=by
 intro a w hh
 obtain⟨hW,I,lab,fz,hA⟩:=hh
 simp only[Cmd.run]at h
 split at h
 .rename_i u z es ht hk
  simp only[jS]at h
  subst h
  obtain⟨lab',h1,h2⟩:=Se hA.m ht hk
  have h2:=h2.pres ht
  have hkt:k≠t:=by rintro rfl;rw[ht]at hk;cases hk
  have hup:lkp ((t,Ch.vec 0 z es)::(k,Ch.dead)::s.h)=upd (upd (lkp s.h) k .dead) t (.vec 0 z es):=by rw[E6,E6]
  have hA1:At X w0 n (λn=>if n=t then I k else I n) lab' fz (lkp s.e) (lkp ((t,.vec 0 z es)::(k,.dead)::s.h)) a w:=by
   exact AAw
  have hW1:WFE (lkp s.e) (lkp ((t,.vec 0 z es)::(k,.dead)::s.h)):=by
   rw[hup];exact λt g v ht hg=>Bc (Bc (hW t g v ht hg) _ _) _ _
  have hI:(λn=>if n=t then I k else I n) k=(λn=>if n=t then I k else I n) t:=by simp
  generalize (λn=>if n=t then I k else I n)=I' at hA1 hI
  have key:∀π c x,Den (hp w) fz lab' I' π c x->Den (hp w) fz lab' I' π (mvC k t c) x:=by
   intro π c x r
   have ho:=Jt r
   unfold mvC
   split
   .split
    .rename_i m e;subst e;cases r;rw[hI];exact .s _ _
    exact r
   .split
    .rename_i m i j e
     subst e
     cases r
     rw[hI];exact .p _ _ _ _
    exact r
   .exact AAo
   .exact AAo
   .split
    .exact .any _ _ ho
    exact r
   exact r
  have hst:∀c,c.stor=true->(mvC k t c).stor=true:=by
   intro c hc
   unfold mvC
   repeat' split
   all_goals first|rfl|exact hc
  have hts:(lkp ((t,Ch.vec 0 z es)::(k,Ch.dead)::s.h) t).isSome=true:=by simp[lkp]
  refine Y0 hA1 hW1 key ?_ hst ?_ (A0m _ _)
  .intro c x r
   have hone:=Qc r
   by_cases hcs:c.stor=true
   .exact HN (hst c hcs) (key _ _ _ (Ju hcs r))
   cases c<;>first|(exact absurd rfl hcs)|skip
   .exact absurd r.1 (by simp[C.flat])
   .rename_i m u2 p
    simp only[mvC]
    exact p5
   rename_i m u2 p s2 m2 o
   simp only[mvC]
   exact p5
  intro c hc m hm
  unfold mvC at hm
  repeat' split at hm
  all_goals first|exact hc m hm|(simp[C.names]at hm;done)|(simp only[C.names,mem_singleton]at hm;subst hm;exact hts)|skip
  all_goals (simp only[C.names,not_mem_nil]at hm)
 cases h
theorem vm{s s':St}{slot t:Nat}{z:List C}(h:Cmd.run s (.nil slot t z)=some s'):Ent X w0 n s s':=by
 intro a w hh
 obtain⟨hW,I,lab,fz,hA⟩:=hh
 simp only[Cmd.run]at h
 split at h
 .rename_i ht hs
  simp only[jS]at h
  subst h
  obtain⟨q1,q2⟩:=hA.m.priv ht
  let nv:NV:=⟨none,0,0,z.length,false⟩
  obtain⟨r1,r2⟩:=KH (lab':=lab) (w':=w) hA.m q1 q2 nv rfl z [] rfl (λ_ _=>rfl) (λk ch _ _ _ b ρ hb=>⟨hb,rfl⟩) hA.m.own hA.m.fzl hA.m.kept (.inl ⟨rfl,rfl⟩) (by simp)
  have h2:=r2.pres ht
  obtain⟨x,hx,hd⟩:=hA.e slot true _ hs
  simp only[if_true]at hd
  have hxe:x= .slice none 0 0:=Gq hd rfl
  subst hxe
  refine⟨?_,λn=>if n=t then nv else I n,lab,fz,hA.n,hA.d,?_,?_⟩
  .show WFE (lkp ((slot,true,SV.one (.s t))::s.e)) (lkp ((t,Ch.vec 0 z [])::s.h))
   rw[E6,E6]
   refine WFE.put (λt' g v ht' hg=>Bc (hW t' g v ht' hg) _ _) λ_=>?_
   intro q hq
   simp only[SV.names,C.names,mem_singleton]at hq
   subst hq;simp[upd]
  .show AtE _ _ _ _ (lkp ((t,Ch.vec 0 z [])::s.h)) (lkp ((slot,true,SV.one (.s t))::s.e)) a
   rw[E6,E6]
   intro j g v hj
   unfold upd at hj
   split at hj
   .rename_i e
    simp only[jS,jP]at hj
    obtain⟨rfl,rfl⟩:=hj
    refine⟨_,by rw[e];exact hx,?_⟩
    have:Value.slice none 0 0=((λn=>if n=t then nv else I n) t).v:=by simp[nv,NV.v,slV]
    simp only[if_true]
    rw[this]
    exact⟨rfl,.s _ _⟩
   exact hA.e.mono hW h2 j g v hj
  show AtW _ _ _ _ _ (lkp ((t,Ch.vec 0 z [])::s.h)) w
  rw[E6];exact r1
 cases h
theorem pQ(h:U3 es=true)(i j:Nat)(cs:List C)(c:C)(h1:es[i]?=some cs)(h2:cs[j]?=some c):c.names=[]:=by
 have:=all_eq_true.1 (all_eq_true.1 h cs (mem_of_getElem? h1)) c (mem_of_getElem? h2)
 simpa using this
theorem pR{s s':St}{i:Nat}(h:Cmd.run s (.fold k i j)=some s'):Ent X w0 n s s':=by
 intro a w hh
 obtain⟨hW,I,lab,fz,hA⟩:=hh
 simp only[Cmd.run]at h
 split at h
 .rename_i u z es hk
  unfold B0i at h
  split at h
  .rename_i r m hr hm
   unfold gm at h
   split at h
   .rename_i un zn esn hn
    split at h
    .rename_i hc
     simp only[jS]at h
     subst h
     have hi:i<es.length:=(List.getElem?_eq_some_iff.1 hr).1
     have hrd:es.getD i z=r:=by simp[List.getD,hr]
     rw[hr]at hm
     simp only[getD_some]at hm
     obtain⟨lab',h1,h2⟩:=vh hA.m hk hi (by rw[hrd];exact hm) hn hc.2 (pQ hc.1)
     rw[hrd]at h1 h2
     have hup:∀c,lkp ((k,c)::(m,Ch.dead)::s.h)=upd (upd (lkp s.h) m .dead) k c:=λc=>by rw[E6,E6]
     refine⟨?_,I,lab',fz,hA.n,hA.d,?_,?_⟩
     .exact AAq
     .simp only[hup];exact hA.e.mono hW h2
     simp_all
    cases h
   cases h
  cases h
 cases h
theorem pS{s s':St}{i:Nat}(h:Cmd.run s (.nilc k i j zn)=some s'):Ent X w0 n s s':=by
 intro a w hh
 obtain⟨hW,I,lab,fz,hA⟩:=hh
 simp only[Cmd.run]at h
 split at h
 .rename_i u z es hk
  unfold gq at h
  split at h
  .rename_i r hr hm
   simp only[jS]at h
   subst h
   have hi:i<es.length:=(List.getElem?_eq_some_iff.1 hr).1
   have hrd:es.getD i z=r:=by simp[List.getD,hr]
   rw[hr]at hm
   simp only[getD_some]at hm
   obtain⟨h1,h2⟩:=vi hA.m zn hk hi (by rw[hrd];exact hm)
   rw[hrd]at h1 h2
   have hup:∀c,lkp ((k,c)::s.h)=upd (lkp s.h) k c:=λc=>by rw[E6]
   refine⟨?_,I,lab,fz,hA.n,hA.d,?_,?_⟩
   .simp only[hup];exact λt g v ht hg=>Bc (hW t g v ht hg) _ _
   .simp only[hup];exact hA.e.mono hW h2
   simp_all
  cases h
 cases h
theorem pT{s s':St}{i t:Nat}(h:Cmd.run s (.nilr k i j t zn)=some s'):Ent X w0 n s s':=by
 intro a w hh
 obtain⟨hW,I,lab,fz,hA⟩:=hh
 simp only[Cmd.run]at h
 split at h
 .rename_i u z es ht hk
  unfold gr at h
  split at h
  .rename_i r hr hm
   split at h
   .rename_i hne
    simp only[jS]at h
    subst h
    obtain⟨q1,q2⟩:=hA.m.priv ht
    let nv:NV:=⟨none,0,0,zn.length,false⟩
    obtain⟨r1,r2⟩:=KH (lab':=lab) (w':=w) hA.m q1 q2 nv rfl zn [] rfl (λ_ _=>rfl) (λk ch _ _ _ b ρ hb=>⟨hb,rfl⟩) hA.m.own hA.m.fzl hA.m.kept (.inl ⟨rfl,rfl⟩) (by simp)
    have h2:=r2.pres ht
    have hk2:upd (lkp s.h) t (Ch.vec 0 zn []) k=some (.vec u z es):=by rw[Bm _ _ (Ne.symm hne)];exact hk
    have hi:i<es.length:=(List.getElem?_eq_some_iff.1 hr).1
    have hrd:es.getD i z=r:=by simp[List.getD,hr]
    rw[hr]at hm
    simp only[getD_some]at hm
    obtain⟨h3,h4⟩:=vj r1 hk2 hi (by rw[hrd];exact hm) (BM _ _ _) (by simp[nv,NV.v,slV])
    rw[hrd]at h3 h4
    have hup:∀c,lkp ((k,c)::(t,Ch.vec 0 zn [])::s.h)=upd (upd (lkp s.h) t (Ch.vec 0 zn [])) k c:=λc=>by rw[E6,E6]
    refine⟨?_,λn=>if n=t then nv else I n,lab,fz,hA.n,hA.d,?_,?_⟩
    .exact AAq
    .simp only[hup];exact AtE.mono (lab':=lab) (AtE.mono (lab':=lab) hA.e hW h2) (λt g v ht hg=>Bc (hW t g v ht hg) _ _) h4
    simp_all
   cases h
  cases h
 cases h
theorem vn{s s':St}{i t:Nat}(h:Cmd.run s (.unr k i j t)=some s'):Ent X w0 n s s':=by
 intro a w hh
 obtain⟨hW,I,lab,fz,hA⟩:=hh
 simp only[Cmd.run]at h
 split at h
 .rename_i u z es ht hk
  unfold pN at h
  split at h
  .rename_i r zn esn hr hm
   simp only[jS]at h
   subst h
   have hi:i<es.length:=(List.getElem?_eq_some_iff.1 hr).1
   have hrd:es.getD i z=r:=by simp[List.getD,hr]
   rw[hr]at hm
   simp only[getD_some]at hm
   obtain⟨I',lab',h3,h4⟩:=A0k hA.m ht hk hi (by rw[hrd];exact hm)
   rw[hrd]at h3 h4
   have hup:∀c,lkp ((k,c)::(t,Ch.vec 0 zn esn)::s.h)=upd (upd (lkp s.h) t (Ch.vec 0 zn esn)) k c:=λc=>by rw[E6,E6]
   refine⟨?_,I',lab',fz,hA.n,hA.d,?_,?_⟩
   .exact AAq
   .simp only[hup];exact AtE.mono hA.e hW h4
   simp_all
  cases h
 cases h
theorem bf:∀{es:List (List UInt8×List C)} {vs:List (List UInt8×Value)},Rb es=some vs->es=vs.map λp=>(p.1,[C.v p.2])
 |[],vs,h=>by simp only[Rb,jS]at h;subst h;rfl
 |(k,l)::r,vs,h=>by
  match l,h with
  |[.v x],h=>
   simp only[Rb,map_eq_some_iff]at h
   obtain⟨vs',h1,rfl⟩:=h
   rw[map_cons,<- bf h1]
theorem A0p{I:Nm}{lab:Lab}{fz:Nat->Prop}{H:Hp}{w:World}(hA:AtW X w0 I lab fz H w){es:List (List UInt8×List C)}(hk:H k=some (.mp false es)){vs:List (List UInt8×Value)}(he:Rb es=some vs):
  ∃lab' fz',AtW X w0 I lab' fz' (upd H k .dead) w/\Pres (hp w) (hp w) fz fz' I I H (upd H k .dead)/\Rd (hp w) fz' (.mp vs) (I k).v:=by
 classical
 let lab':Lab:=λb=>match lab b with
  |some (n::ρ)=>if n=k then none else some (n::ρ)
  |x=>x
 let fz':Nat->Prop:=λb=>fz b∨∃ρ,lab b=some (k::ρ)
 obtain⟨r,entries,clock,m1,m2,m3,m4,m5⟩:=hA.h k _ hk
 have hlo:∀n,n≠k->∀b ρ,lab b=some ([n]++ρ)->lab' b=some ([n]++ρ):=by intro n h b ρ hb;simp[lab',hb,h]
 have hzz:∀b,fz b->fz' b/\hp w b=hp w b:=λb hb=>⟨.inl hb,rfl⟩
 have hsub:∀b π,lab' b=some π->lab b=some π:=by grind
 have hrd:Rd (hp w) fz' (.mp vs) (I k).v:=by
  rw[m1]
  have hes:=bf he
  refine .mp vs r entries clock (.inr ⟨[],m2⟩) m3 (by rw[m4,hes];simp) λi p hp'=>?_
  obtain⟨e,q1,q2,c,q3,q4,q5⟩:=m5 i (p.1,[.v p.2]) (by rw[hes];simp[hp'])
  simp only[List.cons.injEq,and_true]at q3
  subst q3
  have hv:e.val=p.2/\H6 p.2=true:=by
   generalize e.val=q at q5
   cases q5 with
   |v _ _ h1=>exact⟨rfl,h1⟩
  exact⟨e,q1,q2,hv.1,hv.2⟩
 refine⟨lab',fz',⟨λk2 ch h=>?_,λk2 ch h=>?_,λb π hb=>hA.own b π (hsub b π hb),λb hb=>?_,λb hb=>?_,hA.kept,λp hp'=>⟨?_,(hA.fix p hp').2⟩⟩,⟨hzz,λ_ _=>rfl,?_⟩,hrd⟩
 .exact Yb
 .exact kE
 .exact AAW
 .rcases hb with hb|⟨ρ,hb⟩
  .exact hA.fzo b hb
  .exact .inr (hA.own b _ hb).2
 .exact s8
 .intro n u2 p x hn hv
  by_cases e:n=k
  .subst e;exact Jz (BM _ _ _) hv
  .exact kF
theorem vo(k:Nat)(es:List (List UInt8×Value)):OvS (I7 k es):=by
 refine⟨λ_ _=>rfl,λc z2 es2 h=>?_⟩
 unfold I7 at h
 repeat' split at h
 all_goals first|exact h|cases h
theorem vq{s s':St}(h:Cmd.run s (.fzm k)=some s'):Ent X w0 n s s':=by
 intro a w hh
 obtain⟨hW,I,lab,fz,hA⟩:=hh
 simp only[Cmd.run]at h
 split at h
 .rename_i es hk
  unfold pM at h
  split at h
  .rename_i es' he
   simp only[jS]at h
   subst h
   obtain⟨lab',fz',h1,h2,h3⟩:=A0p hA.m hk he
   have hup:lkp ((k,Ch.dead)::s.h)=upd (lkp s.h) k .dead:=E6 _ _ _
   have hA1:At X w0 n I lab' fz' (lkp s.e) (lkp ((k,.dead)::s.h)) a w:=by
    exact AAw
   have hW1:WFE (lkp s.e) (lkp ((k,.dead)::s.h)):=by
    rw[hup];exact λt g v ht hg=>Bc (hW t g v ht hg) _ _
   have key:∀π c x,Den (hp w) fz' lab' I π c x->Den (hp w) fz' lab' I π (I7 k es' c) x:=by
    intro π c x r
    have ho:=Jt r
    unfold I7
    split
    .split
     .rename_i m e;subst e;cases r;exact .d _ _ _ h3
     exact r
    .split
     .exact .any _ _ ho
     exact r
    .exact AAo
    .exact AAo
    .split
     .exact .any _ _ ho
     exact r
    exact r
   have hst:∀c,c.stor=true->(I7 k es' c).stor=true:=by
    intro c hc
    unfold I7
    repeat' split
    all_goals first|rfl|exact hc
   refine Y0 hA1 hW1 key ?_ hst ?_ (vo _ _)
   .intro c x r
    have hone:=Qc r
    by_cases hcs:c.stor=true
    .exact HN (hst c hcs) (key _ _ _ (Ju hcs r))
    cases c<;>first|(exact absurd rfl hcs)|skip
    .exact absurd r.1 (by simp[C.flat])
    .rename_i m u2 p
     simp only[I7]
     exact p5
    rename_i m u2 p s2 m2 o
    simp only[I7]
    exact p5
   intro c hc m hm
   refine hc m ?_
   unfold I7 at hm
   exact AAj
  cases h
 cases h
theorem vr{s s':St}{c:Cmd}(h:c.run s=some s'):Ent X w0 n s s':=by
 cases c with
 |fz k=>exact A0n h
 |mv k t=>exact A0o h
 |nil a b z=>exact vm h
 |fold k i j=>exact pR h
 |nilc k i j z=>exact pS h
 |nilr k i j t z=>exact pT h
 |unr k i j t=>exact vn h
 |flag t=>exact pP h
 |fzm k=>exact vq h
theorem Gm:∀{cs:List Cmd} {s s':St},JE s cs=some s'->Ent X w0 n s s'
 |[],s,s',h=>by simp only[JE,jS]at h;subst h;exact λ_ _ h=>h
 |c::r,s,s',h=>by
  simp only[JE]at h
  split at h
  .rename_i s1 h1
   exact λa w hh=>Gm h a w (vr h1 a w hh)
  cases h
def F3:C->Bool
 | .vw _ _ _=>false
 | .q _ _ _ _ _ _=>false
 |_=>true
def LX:SV->Bool
 | .one c=>F3 c
 | .agg l=>l.all F3
 | .tup l=>l.all fun| .inl c=>F3 c| .inr l=>l.all F3
def lL:Ch->Ch->Prop
 |_,.dead=>True
 | .vec _ z es,.vec _ z' es'=>z.length=z'.length/\es=es'/\(zT z'=none∨zT z'=zT z)
 | .mp a es,.mp a' es'=>a=a'/\es=es'
 | .fact p,.fact q=>p->q
 |_,_=>False
def KR:Option Ch->Ch->Prop
 |some c,d=>lL c d
 |none,_=>False
def Kk(h:List (Nat×Ch))(l:List Nat):Prop:=∀k∈l,(h.map (·.1)).contains k=true
def Sub(s t:St):Prop:=
 (∀p∈t.e,lkp s.e p.1=some p.2/\LX p.2.2=true/\Kk t.h p.2.2.names)/\(∀p∈t.h,KR (lkp s.h p.1) p.2/\Kk t.h (chNames p.2))
theorem Qn{α:Type}:∀{l:List (Nat×α)} {k:Nat},(l.map (·.1)).contains k=true->(lkp l k).isSome=true
 |[],k,h=>by simp at h
 |(k0,v)::r,k,h=>by
  simp only[lkp]
  split
  .rfl
  rename_i hne
  apply Qn
  simp only[map_cons,List.contains_cons,or_eq_true,beq_iff_eq]at h
  exact h.resolve_left hne
theorem vt{s t:St}(hs:Sub s t)(hF:∀p∈X.F,(t.h.map (·.1)).contains p.1=true):Ent X w0 n s t:=by
 intro a w hh
 obtain⟨hW,I,lab,fz,hA⟩:=hh
 obtain⟨h1,h2⟩:=hs
 have hdom:∀{l},Kk t.h l->Dom (lkp t.h) l:=λhl k hk=>Qn (hl k hk)
 have scn:∀{c x},F3 c=true->SC (hp w) fz lab I (lkp s.h) c x->SC (hp w) fz lab I (lkp t.h) c x:=by
  intro c x hn r
  cases c<;>first|exact r|cases hn
 have csn:∀{l arr},l.all F3=true->ER (hp w) fz lab I (lkp s.h) l arr->ER (hp w) fz lab I (lkp t.h) l arr:=by
  intro l arr hn r
  refine⟨r.1,λj c hj=>?_⟩
  obtain⟨y,y1,y2⟩:=r.2 j c hj
  exact⟨y,y1,scn (all_eq_true.1 hn c (mem_of_getElem? hj)) y2⟩
 refine⟨?_,I,lab,fz,hA.n,hA.d,?_,?_,?_,hA.m.own,hA.m.fzl,hA.m.fzo,hA.m.kept,λp hp'=>⟨Qn (hF p hp'),(hA.m.fix p hp').2⟩⟩
 .intro j g v hj hg
  exact hdom (h1 _ (M1 hj)).2.2
 .intro j g v hj
  obtain⟨g1,g2,_⟩:=h1 _ (M1 hj)
  obtain⟨x,hx,hd⟩:=hA.e j g v g1
  refine⟨x,hx,?_⟩
  cases g with
  |false=>exact hd
  |true=>
  simp only[if_true]at hd ⊢
  cases v with
  |one c=>exact scn g2 hd
  |agg l=>obtain⟨arr,e1,e2⟩:=hd;exact⟨arr,e1,csn g2 e2⟩
  |tup l=>
  obtain⟨arr,e1,e2,e3⟩:=hd
  refine⟨arr,e1,e2,λj p hj=>?_⟩
  obtain⟨y,y1,y2⟩:=e3 j p hj
  have hq:=all_eq_true.1 g2 p (mem_of_getElem? hj)
  exact AAu
 .intro k ch hk
  obtain⟨g1,g2⟩:=h2 _ (M1 hk)
  simp only at g1 g2
  cases hs':lkp s.h k with
  |none=>rw[hs']at g1;exact g1.elim
  |some c0=>
  rw[hs']at g1
  have h0:=hA.m.h k c0 hs'
  exact RG
 intro k ch hk
 exact hdom (h2 _ (M1 hk)).2
end
open Go.RowKit
abbrev Trace:=List (List Nat×List Nat)
def gu(ops:Array Oper):List Oper->Trace->List Tch
 |o::l,(wb,f)::tr=>⟨o.dst,o.looksAt ops,wb,f⟩::gu ops l tr
 |_,_=>[]
def Sq(ops:Array Oper)(tr:Trace):Bool:=fwd ops&&Qm 0 (gu ops ops.toList tr) (Sn ops.toList [])
def bg:List Wr->List (List Nat)->Trace
 |x::xs,f::fs=>(x.us.map (·.1),f)::bg xs fs
 |_,_=>[]
theorem eV(ops:Array Oper):∀(l:List Oper) (xs:List Wr) (fs:List (List Nat)),gu ops l (bg xs fs)=tch ops l xs fs
 |[],xs,fs=>by cases xs<;>cases fs<;>rfl
 |o::l,[],fs=>by cases fs<;>rfl
 |o::l,x::xs,[]=>rfl
 |o::l,x::xs,f::fs=>by simp only[bg,gu,tch,eV ops l xs fs]
abbrev Gh:=List (Nat×List Cmd)
def Y1(g:Gh)(id:Nat):List Cmd:=(lkp g id).getD []
section
variable {P:Program}
def Y2(o:Option Ch)(p:Prop)(K:St->Prop)(s:St):Prop:=(o=some (.fact p)->p)->K s
theorem A0q(K:St->Prop)(s:St):Y2 (some (.fact True)) True K s=K s:=by simp[Y2]
theorem A0r(K:St->Prop)(s:St):Y2 (some (.fact False)) False K s=True:=by simp[Y2]
def J6:List (Nat×Ch)->(St->Prop)->St->Prop
 |[],K=>K
 |(t,.fact p)::r,K=>J6 r (λs=>Y2 (lkp s.h t) p K s)
 |(_,.dead)::r,K=>J6 r K
 |(_,.vec _ _ _)::r,K=>J6 r K
 |(_,.mp _ _)::r,K=>J6 r K
def K3{X:Ctx}{w0:World}(sp:List (Spec P X w0))(n:Nat)(ops:Array Oper):List Oper->St->Trace->(Trace->Prop)->(St->Prop)->Prop
 |[],s,tr,T,K=>T tr/\K s
 |o::r,s,tr,T,K=>
  match opG sp n ops o (lkp s.e) (lkp s.h) with
  |some (c,x,f)=>c/\K3 sp n ops r (s.app x) ((x.us.map (·.1),f)::tr) T (J6 x.us K)
  |none=>False
theorem Oc{s:St}(hf:∀t p,lkp s.h t=some (.fact p)->p):∀(us:List (Nat×Ch)) (K:St->Prop),J6 us K s->K s
 |[],K,h=>h
 |(t,.fact p)::r,K,h=>by
  have:=Oc hf r _ h
  exact this (hf t p)
 |(_,.dead)::r,K,h=>Oc hf r K h
 |(_,.vec _ _ _)::r,K,h=>Oc hf r K h
 |(_,.mp _ _)::r,K,h=>Oc hf r K h
theorem PH{X:Ctx}{w0:World}(sp:List (Spec P X w0))(n:Nat)(ops:Array Oper):∀(l:List Oper) (s:St) (tr:Trace) (T:Trace->Prop) (K:St->Prop),K3 sp n ops l s tr T K->
  ∃xs fs s',Kj sp n ops l (lkp s.e) (lkp s.h) xs fs/\T ((bg xs fs).reverse++tr)/\((∀t p,lkp s'.h t=some (.fact p)->p)->K s')/\lkp s'.e=KL xs (lkp s.e)/\lkp s'.h=KM xs (lkp s.h)
 |[],s,tr,T,K,h=>⟨[],[],s,trivial,h.1,λ_=>h.2,rfl,rfl⟩
 |o::l,s,tr,T,K,h=>by
  simp only[K3]at h
  split at h
  .rename_i c x f hs
   obtain⟨hc,hr⟩:=h
   obtain⟨xs,fs,s',h1,ht,h2,h3,h4⟩:=PH sp n ops l _ _ T (J6 x.us K) hr
   rw[rT,rU]at h1
   refine⟨x::xs,f::fs,s',⟨A0g hs hc,h1⟩,by simpa [bg] using ht,λhf=>Oc hf _ _ (h2 hf),?_,?_⟩
   .rw[h3,rT]
    have gen:∀(ys:List Wr) (i j:Nat) (E:Env),DV ys i (λ_=>true) E=DV ys j (λ_=>true) E:=by
     exact AAs
    simp only[KL,DV,if_true]
    exact gen xs 0 1 _
   rw[h4,rU]
   have gen:∀(ys:List Wr) (i j:Nat) (E:Hp),D7 ys i (λ_=>true) E=D7 ys j (λ_=>true) E:=by
    exact AAy
   simp only[KM,D7,if_true]
   exact gen xs 0 1 _
  exact h.elim
def postOf(X:Ctx)(w0:World)(n:Nat)(Q:Exit->St->Prop):Exit->Act->World->Prop:=λe a w=>(∃s,Q e s/\Holds X w0 n s a w)∨∃ch,e= .panic ch/\Hn X a/\Kh X w0 ch w
def Tri(X:Ctx)(w0:World)(n:Nat)(c:Code)(s:St)(Q:Exit->St->Prop):Prop:=
 ∀a w,Holds X w0 n s a w->c.wp P (postOf X w0 n Q) a w
def MH(K:St->Prop)(Q:Exit->St->Prop):Exit->St->Prop
 | .normal,s=>K s
 |e,s=>Q e s
def inQ(id:Nat)(Q:Exit->St->Prop):Exit->St->Prop
 | .exit j,s=>if j=id then Q .normal s else Q (.exit j) s
 |e,s=>Q e s
def vc(X:Ctx)(w0:World)(sp:List (Spec P X w0))(n:Nat)(g:Gh):Code->St->(Exit->St->Prop)->Prop
 | .skip,s,Q=>Q .normal s
 | .label _,s,Q=>Q .normal s
 | .region id ops false,s,Q=>match JE s (Y1 g id) with
  |some s=>K3 sp n ops ops.toList s [] (λ_=>True) (λs'=>Q .normal s')
  |none=>False
 | .region id ops true,s,Q=>match JE s (Y1 g id) with
  |some s=>K3 sp n ops ops.toList s [] (λtr=>Sq ops tr.reverse=true) (λs'=>Q .normal s')
  |none=>False
 | .seq a b,s,Q=>vc X w0 sp n g a s (MH (λs'=>vc X w0 sp n g b s' Q) Q)
 | .cond c x y,s,Q=>
  match rdv (lkp s.e) c with
  |some (.one (.v (.bool b)))=>rdg (lkp s.e) c=true/\(b=true->vc X w0 sp n g x s Q)/\(b=false->vc X w0 sp n g y s Q)
  |_=>False
 | .block id c,s,Q=>vc X w0 sp n g c s (inQ id Q)
 | .exit id,s,Q=>Q (.exit id) s
 | .ret,s,Q=>Q .ret s
 | .loop c,s,Q=>Tri (P:=P) X w0 n (.loop c) s Q
 |_,_,_=>False
variable {X:Ctx}{w0:World}{n:Nat}
theorem Holds.defers{s:St}{a:Act}{w:World}(h:Holds X w0 n s a w):a.defers=X.dfs:=by
 obtain⟨_,I,lab,fz,hA⟩:=h;exact hA.d.1
theorem AP(sp:List (Spec P X w0))(g:Gh):∀(c:Code) (s:St) (Q:Exit->St->Prop),vc X w0 sp n g c s Q->Tri (P:=P) X w0 n c s Q:=by
 intro c
 induction c with
 |skip=>intro s Q h a w hs;exact wp_skip (.inl ⟨s,h,hs⟩)
 |label l=>intro s Q h a w hs;exact wp_label (.inl ⟨s,h,hs⟩)
 |region id ops draw=>
  intro s0 Q h a w hs
  cases draw with
  |false=>
   simp only[vc]at h
   split at h
   .rename_i s hg
    obtain⟨hW,I,lab,fz,hA⟩:=Gm hg a w hs
    obtain⟨xs,fs,s',h1,_,h2,h3,h4⟩:=PH sp n ops _ _ _ _ _ h
    refine co (λch a w hd hp=>.inr ⟨ch,rfl,hd,hp⟩) h1 hW hA λa' w' I' lab' fz' hW' hA'=>?_
    rw[<- h3,<- h4]at hW' hA'
    exact .inl ⟨s',h2 (λt p ht=>hA'.m.h t _ ht),hW',I',lab',fz',hA'⟩
   exact h.elim
  |true=>
  simp only[vc]at h
  split at h
  .rename_i s hg
   obtain⟨hW,I,lab,fz,hA⟩:=Gm hg a w hs
   obtain⟨xs,fs,s',h1,hc,h2,h3,h4⟩:=PH sp n ops _ _ _ _ _ h
   simp only[append_nil,List.reverse_reverse]at hc
   have hchk:chk ops xs fs=true:=by
    unfold Sq at hc
    rw[eV]at hc
    exact hc
   refine cn (λch a w hd hp=>.inr ⟨ch,rfl,hd,hp⟩) h1 hchk hW hA λa' w' I' lab' fz' hW' hA'=>?_
   rw[<- h3,<- h4]at hW' hA'
   exact .inl ⟨s',h2 (λt p ht=>hA'.m.h t _ ht),hW',I',lab',fz',hA'⟩
  exact h.elim
 |seq x y ihx ihy=>
  intro s Q h a w hs
  refine wp_seq (Code.wp_mono ?_ (ihx s _ h a w hs))
  rintro e a' w' (⟨s',hq,hs'⟩|⟨ch,rfl,hp⟩)
  .cases e with
   |normal=>exact ihy s' Q hq a' w' hs'
   |_=>exact .inl ⟨s',hq,hs'⟩
  exact .inr ⟨ch,rfl,hp⟩
 |cond c x y ihx ihy=>
  intro s Q h a w hs
  simp only[vc]at h
  split at h
  .rename_i b hb
   obtain⟨hg,ht,hf⟩:=h
   have hs0:=hs
   obtain⟨hW,I,lab,fz,hA⟩:=hs
   have he:=Nt (AL hA.e hb hg)
   exact wp_cond_split he (λhb=>ihx s Q (ht hb) a w hs0) (λhb=>ihy s Q (hf hb) a w hs0)
  exact h.elim
 |block id c ih=>
  intro s Q h a w hs
  refine wp_block (Code.wp_mono ?_ (ih s _ h a w hs))
  rintro e a' w' (⟨s',hq,hs'⟩|⟨ch,rfl,hp⟩)
  .cases e with
   |exit j=>
    simp only[inQ]at hq
    simp only[Exit.inBlock]
    split at hq
    .rename_i hj;rw[if_pos hj];exact .inl ⟨s',hq,hs'⟩
    rename_i hj;rw[if_neg hj];exact .inl ⟨s',hq,hs'⟩
   |_=>exact .inl ⟨s',hq,hs'⟩
  exact .inr ⟨ch,rfl,hp⟩
 |loop c ih=>intro s Q h;exact h
 |rangeFunc f ps as b ih1 ih2=>intro s Q h;simp[vc]at h
 |exit id=>intro s Q h a w hs;exact wp_exit (.inl ⟨s,h,hs⟩)
 |scope c ih=>intro s Q h;simp[vc]at h
 |goto l=>intro s Q h;simp[vc]at h
 |ret=>intro s Q h a w hs;exact wp_ret (.inl ⟨s,h,hs⟩)
 |refuse why=>intro s Q h;simp[vc]at h
def To(X:Ctx)(s t:St):Prop:=∀(w0:World) (n:Nat),Ent X w0 n s t
theorem To.ent{s t:St}(h:To X s t):Ent X w0 n s t:=h w0 n
theorem BU{s t u:St}(h1:To X s t)(h2:To X t u):To X s u:=λw0 n a w h=>h2 w0 n a w (h1 w0 n a w h)
theorem vu{s s' t:St}{cs:List Cmd}(h1:JE s cs=some s')(h2:Sub s' t)(h3:∀p∈X.F,(t.h.map (·.1)).contains p.1=true):To X s t:=
 λ_ _ a w hh=>vt h2 h3 a w (Gm h1 a w hh)
theorem AC{Y:Type}{c:Code}{s:St}{Q:Exit->St->Prop}(J:Y->Prop)(inv:Y->St)(μ:Y->Nat)(x0:Y)(h0:J x0)(hs:To X s (inv x0))
  (round:∀x,J x->Tri (P:=P) X w0 n c (inv x) (MH (λs'=>∃y,J y/\μ y<μ x/\To X s' (inv y)) Q)):Tri (P:=P) X w0 n (.loop c) s Q:=by
 classical
 intro a w ha
 let Inv:Act->World->Prop:=λa w=>∃x,J x/\Holds X w0 n (inv x) a w
 let Is:Act->World->Nat->Prop:=λa w m=>∃x,J x/\μ x=m/\Holds X w0 n (inv x) a w
 have least:∀a w,Inv a w->∃m,Is a w m/\∀k,Is a w k->m<=k:=by
  intro a w ⟨x,hx,hh⟩
  have:∀k,∀y,J y->μ y=k->Holds X w0 n (inv y) a w->∃m,Is a w m/\∀k,Is a w k->m<=k:=by
   intro k
   induction k using Nat.strongRecOn with
   |_ k ih=>
    intro y hy hk hh
    by_cases hl:∃j,j<k/\Is a w j
    .grind
    .grind
  exact this _ x hx rfl hh
 let meas:Act->World->Nat:=λa w=>if h:Inv a w then Classical.choose (least a w h) else 0
 refine wp_loop Inv meas ⟨x0,h0,hs.ent a w ha⟩ ?_
 intro a w hI
 have hm:meas a w=Classical.choose (least a w hI):=dif_pos hI
 obtain⟨⟨x,hx,hxm,hh⟩,_⟩:=Classical.choose_spec (least a w hI)
 refine Code.wp_mono ?_ (round x hx a w hh)
 rintro e a' w' (⟨s',hq,hs'⟩|⟨ch,rfl,hp⟩)
 rotate_left
 .exact .inr ⟨ch,rfl,hp⟩
 cases e with
 |normal=>
  obtain⟨y,hy,hlt,hsub⟩:=hq
  have hsub':=hsub.ent a' w' hs'
  have hI':Inv a' w':=⟨y,hy,hsub'⟩
  refine⟨hI',?_⟩
  have hm':meas a' w'=Classical.choose (least a' w' hI'):=dif_pos hI'
  have:=(Classical.choose_spec (least a' w' hI')).2 (μ y) ⟨y,hy,rfl,hsub'⟩
  rw[hm,hm']
  omega
 |_=>exact .inl ⟨s',hq,hs'⟩
def Sr(P:Program)(s:St):ResultVar->Option SV
 | .tmp t=>match lkp s.e t with
  |some (true,v)=>some v
  |_=>none
 | .cell t T=>match lkp s.e t,Aq P T with
  |some (true,.one (.p k i j)),some m=>
   match lkp s.h k with
   |some (.vec u z es)=>if i<es.length then ldV (Cw P T) m (ldc k u [] i j ((es.getD i z).drop j)) else none
   |_=>none
  |some (true,.one (.d (.pt (some cs)))),some m=>ldV (Cw P T) m (cs.map oD)
  |_,_=>none
def LY(P:Program)(s:St):List ResultVar->Option (List SV)
 |[]=>some []
 |r::rs=>match Sr P s r,LY P s rs with
  |some v,some l=>some (v::l)
  |_,_=>none
def toP:SV->C ⊕ List C
 | .one c=>.inl c
 | .agg l=>.inr l
 | .tup _=>.inl .any
def F0:List SV->SV
 |[v]=>v
 |l=>.tup (l.map toP)
def NA:List SV->Bool
 |[]=>true
 | .tup _::_=>false
 |_::r=>NA r
def WM(tmps:Array Value)(r:ResultVar):Sem Value:=
 match r with
 | .tmp t=>pure (tmps.getD t undef)
 | .cell b t=>do loadVar t (<- asAddr (tmps.getD b undef))
section
variable {I:Nm}{lab:Lab}{fz:Nat->Prop}{s:St}{a:Act}{w:World}
theorem lM{r:ResultVar}(h:Sr P s r=some v)(hA:At X w0 n I lab fz (lkp s.e) (lkp s.h) a w):
  ∃x,(WM a.tmps r).run P w= .ok x w/\Ap (hp w) fz lab I (lkp s.h) v x:=by
 unfold WM
 cases r with
 |tmp t=>
  simp only[Sr]at h
  split at h
  .rename_i sv hs
   simp only[jS]at h
   subst h
   obtain⟨x,hx,hd⟩:=hA.e t true _ hs
   exact⟨x,by simp[hx],by simpa using hd⟩
  .cases h
 |cell t T=>
  simp only[Sr]at h
  split at h
  .rename_i k i j m hs hm
   obtain⟨x,hx,hd⟩:=hA.e t true _ hs
   simp only[if_true]at hd
   split at h
   .rename_i u z es hk
    split at h
    .rename_i hi
     obtain⟨b,off,hp',hl⟩:=bI (j:=j) hA.m hk hi
     obtain⟨y,y1,y2⟩:=gT hm h hl
     have hx':x= .pointer (some ⟨b,off,none⟩):=by
      have:=hd.2
      cases this;exact hp'
     exact⟨y,by simp[hx,hx',asAddr,y1],y2⟩
    .cases h
   .cases h
  .rename_i cs m hs hm
   obtain⟨x,hx,hd⟩:=hA.e t true _ hs
   simp only[if_true]at hd
   have hd:=hd.2
   cases hd with
   |d _ _ _ r=>
    obtain⟨b,off,hx',hl⟩:=RW (H:=lkp s.h) (lab:=lab) (I:=I) r
    obtain⟨y,y1,y2⟩:=gT hm h hl
    exact⟨y,by simp[hx,hx',asAddr,y1],y2⟩
  .cases h
theorem Yv(hA:At X w0 n I lab fz (lkp s.e) (lkp s.h) a w):∀{rs:List ResultVar} {vs:List SV},LY P s rs=some vs->
  ∃xs,(rs.mapM (WM a.tmps)).run P w= .ok xs w/\xs.length=vs.length/\∀(j:Nat) (v:SV),vs[j]?=some v->∃x,xs[j]?=some x/\Ap (hp w) fz lab I (lkp s.h) v x
 |[],vs,h=>by simp only[LY,jS]at h;subst h;exact⟨[],by simp,rfl,by simp⟩
 |r::rs,vs,h=>by
  simp only[LY]at h
  split at h
  .rename_i v l h1 h2
   simp only[jS]at h
   subst h
   obtain⟨x,x1,x2⟩:=lM h1 hA
   obtain⟨xs,e1,e2,e3⟩:=Yv hA h2
   refine⟨x::xs,by simp only[List.mapM_cons,Sem.run_bind,x1,e1,Result.andThen_ok,Sem.run_pure],by simp[e2],λj v hj=>?_⟩
   exact AAU
  cases h
theorem K4(hA:At X w0 n I lab fz (lkp s.e) (lkp s.h) a w){fn:Func}{vs:List SV}(h:LY P s fn.results.toList=some vs)(ht:NA vs=true):
  ∃x,(results fn a.tmps).run P w= .ok x w/\Ap (hp w) fz lab I (lkp s.h) (F0 vs) x:=by
 obtain⟨xs,h1,h2,h3⟩:=Yv hA h
 have e:results fn a.tmps=(do let vs <- fn.results.mapM (WM a.tmps);pure (if h:vs.size=1 then vs[0] else .tuple vs)):=rfl
 have tupCase:(∀v,vs≠[v])->Ap (hp w) fz lab I (lkp s.h) (.tup (vs.map toP)) (.tuple xs.toArray):=by
  intro _
  refine⟨_,rfl,by simp[h2],λj p hj=>?_⟩
  simp only[getElem?_map,map_eq_some_iff]at hj
  obtain⟨v,hv,rfl⟩:=hj
  obtain⟨x,x1,x2⟩:=h3 j v hv
  refine⟨x,by simpa using x1,?_⟩
  have hnt:∀(l:List SV),NA l=true->∀v∈l,∀q,v≠.tup q:=by
   intro l
   induction l with
   |nil=>simp_all
   |cons v0 l ih=>
    intro hn v hv q e
    subst e
    rcases mem_cons.1 hv with e|e
    .subst e;simp[NA]at hn
    .exact ih (by cases v0<;>first|exact hn|(simp[NA]at hn)) _ e q rfl
  cases v with
  |one c=>exact x2
  |agg l=>exact x2
  |tup l=>grind
 rw[e,Array.mapM_eq_mapM_toList]
 simp only[Sem.run_bind,Sem.run_map,h1,Result.andThen_ok,Sem.run_pure]
 match vs,xs,h2,h3,tupCase with
 |[],[],_,_,tc=>exact⟨_,rfl,tc (by simp)⟩
 |[v],[x],_,h3,_=>
  obtain⟨y,y1,y2⟩:=h3 0 v rfl
  simp only[getElem?_cons_zero,jS]at y1
  subst y1
  exact⟨_,rfl,y2⟩
 |v::v2::l,x::x2::l2,_,_,tc=>exact⟨_,rfl,tc (by simp)⟩
end
def J7:Nat->List SV->List (Nat×Bool×SV)
 |_,[]=>[]
 |i,v::r=>(i,true,v)::J7 (i+1) r
theorem H8:∀(args:List SV) (i t:Nat),lkp (J7 i args) t=if i<=t then (args[t-i]?).map λv=>(true,v) else none
 |[],i,t=>by simp[J7,lkp]
 |v::r,i,t=>by
  simp only[J7,lkp]
  by_cases h:t=i
  .subst h;simp
  rw[if_neg h,H8 r (i+1) t]
  by_cases h2:i<=t
  .grind
  grind
def nm0:Nm:=λ_=>⟨none,0,0,0,false⟩
def CD(h:Bf)(fz:Nat->Prop)(v:SV)(x:Value):Prop:=Ap h fz (λ_=>none) nm0 (λ_=>none) v x
theorem HT{h h':Bf}{fz:Nat->Prop}{lab:Lab}{I:Nm}{H H':Hp}(hz:∀b,fz b->fz' b/\h' b=h b){x:Value}(hn:v.names=[])(r:Ap h fz lab I H v x):Ap h' fz' lab' I' H' v x:=by
 have sc:∀{c:C} {x:Value},c.names=[]->SC h fz lab I H c x->SC h' fz' lab' I' H' c x:=by
  intro c x hn r
  unfold SC at r
  split at r
  .cases hn
  .cases hn
  rename_i h1 h2
  have hs:c.stor=true:=by
   exact oM
  exact HN hs (DT hz r.1 r.2 (by rw[hn];intro k hk;cases hk))
 have fl:∀{l:List C},l.flatMap C.names=[]->∀c∈l,c.names=[]:=λh c hc=>(List.flatMap_eq_nil_iff.1 h) c hc
 have cs:∀{l:List C} {arr:Array Value},l.flatMap C.names=[]->ER h fz lab I H l arr->ER h' fz' lab' I' H' l arr:=by
  intro l arr hn r
  refine⟨r.1,λj c hj=>?_⟩
  obtain⟨y,y1,y2⟩:=r.2 j c hj
  exact⟨y,y1,sc (fl hn c (mem_of_getElem? hj)) y2⟩
 cases v with
 |one c=>exact sc hn r
 |agg l=>obtain⟨arr,e1,e2⟩:=r;exact⟨arr,e1,cs hn e2⟩
 |tup l=>
 obtain⟨arr,e1,e2,e3⟩:=r
 refine⟨arr,e1,e2,λj p hj=>?_⟩
 obtain⟨y,y1,y2⟩:=e3 j p hj
 have hq:=(List.flatMap_eq_nil_iff.1 hn) p (mem_of_getElem? hj)
 refine⟨y,y1,?_⟩
 cases p with
 |inl c=>exact sc hq y2
 |inr l=>obtain⟨arr,e1,e2⟩:=y2;exact⟨arr,e1,cs hq e2⟩
def Mx(P:Program)(X:Ctx)(rs:List ResultVar)(R:St->List SV->Prop)(s:St):Prop:=
 ∃cs s' vs,JE s cs=some s'/\LY P s' rs=some vs/\NA vs=true/\R s' vs
def My(P:Program)(X:Ctx)(rs:List ResultVar)(R:St->List SV->Prop):Exit->St->Prop
 | .normal,s=>Mx P X rs R s
 | .ret,s=>Mx P X rs R s
 |_,_=>False
def KS(w:World)(fz:Nat->Prop)(R:SV->Prop)(en:Ending)(w':World):Prop:=
 ∃v x fz',en= .returned x/\R v/\v.names=[]/\(∀b,fz b->fz' b)/\(∀b,fz' b->fz b∨w.heap.size<=b)/\(∀b,fz' b->b<w'.heap.size)/\CD (hp w') fz' v x/\Below w.heap.size w w'
abbrev clX(fz:Nat->Prop):Ctx:=⟨λ_=>False,fz,[],none,[],[]⟩
theorem bh{f:FuncId}{fn:Func}{c:Code}(hf:P.funcs[f]?=some fn)(hb:fn.body=some c)(w:World)(fz:Nat->Prop)(sp:List (Spec P (clX fz) w))(g:Gh)(args:List SV)(hnm:∀v∈args,v.names=[])(hfz:∀b,fz b->b<w.heap.size)
  (xs:List Value) (hlen:xs.length=args.length) (hx:∀(j:Nat) (v:SV) (x:Value),args[j]?=some v->xs[j]?=some x->CD (hp w) fz v x) (R:SV->Prop)
  (hn:args.length<=fn.ntmps) (h:vc (clX fz) w sp fn.ntmps g c ⟨J7 0 args,[]⟩ (My P (clX fz) fn.results.toList (λ_ vs=>(F0 vs).names=[]/\R (F0 vs)))) :
  Calls P f xs.toArray w (KS w fz R):=by
 refine calls_of_wp hf hb (Code.wp_mono ?_ (AP sp g c _ _ h _ w ?_))
 .exact If
 .have hE0:∀t g v,lkp (J7 0 args) t=some (g,v)->g=true/\args[t]?=some v:=by
   exact AAK
  refine⟨?_,nm0,λ_=>none,fz,?_,⟨rfl,λp hp=>by cases hp⟩,?_,⟨?_,?_,?_,λb hb=>⟨hfz b hb,rfl⟩,λb hb=>.inl hb,Kept.refl _ _,by intro p hp;cases hp⟩⟩
  .intro t g v ht _
   have:=(hE0 t g v ht).2
   rw[hnm v (mem_of_getElem? this)]
   intro k hk;cases hk
  .simp_all
  .intro t g v ht
   obtain⟨rfl,hv⟩:=hE0 t g v ht
   have hlt:t<args.length:=(List.getElem?_eq_some_iff.1 hv).1
   have hlt2:t<xs.length:=by omega
   refine⟨xs[t],?_,?_⟩
   .grind
   .simp only[if_true]
    exact HT (λb hb=>⟨hb,rfl⟩) (hnm v (mem_of_getElem? hv)) (hx t v _ hv (getElem?_eq_getElem hlt2))
  .intro k ch hk;simp[lkp]at hk
  .intro k ch hk;simp[lkp]at hk
  .simp_all
end
open Go.RowKit
structure Cod(A:Type) where
 d:SV->Option A
 e:A->SV
 h:∀{hh:Bf} {fz:Nat->Prop} {lab:Lab} {I:Nm} {H:Hp} (v:SV) (a:A) (x:Value),d v=some a->Ap hh fz lab I H v x->Ap hh fz lab I H (e a) x
 n:∀a,(e a).names=[]
def gv(k:IntKind):SV->Option Int
 | .one (.v (.int k' n))=>if k'=k then some n else none
 |_=>none
def cInt(k:IntKind):Cod Int where
 d:=gv k
 e n:=.one (.v (.int k n))
 h s x y h r:=by
  unfold gv at h
  split at h
  .simp_all
  .simp at h
 n x:=rfl
def ZW:SV->Option Bool
 | .one (.v (.bool b))=>some b
 |_=>none
def gx:Cod Bool where
 d:=ZW
 e b:=.one (.v (.bool b))
 h s x y h r:=by
  unfold ZW at h
  split at h
  .simp_all
  .simp at h
 n x:=rfl
theorem vx(k:IntKind):(cInt k).d=gv k:=rfl
theorem vy(k:IntKind)(n:Int):(cInt k).e n= .one (.v (.int k n)):=rfl
theorem pU:gx.d=ZW:=rfl
theorem pV(b:Bool):gx.e b= .one (.v (.bool b)):=rfl
structure ArgC(A:Type) where
 d:List SV->Option A
 e:A->List SV
 h:∀(l:List SV) (a:A),d l=some a->(e a).length=l.length/\∀{hh:Bf} {fz:Nat->Prop} {lab:Lab} {I:Nm} {H:Hp} (j:Nat) (v v':SV) (x:Value),l[j]?=some v->(e a)[j]?=some v'->Ap hh fz lab I H v x->Ap hh fz lab I H v' x
 n:∀a,∀v∈e a,v.names=[]
def ac0:ArgC Unit where
 d|[]=>some ()
  |_=>none
 e _:=[]
 h l a h:=by grind
 n a v hv:=by cases hv
def U4{A B:Type}:Option A->Option B->Option (A×B)
 |some x,some y=>some (x,y)
 |_,_=>none
def acS{A B:Type}(c:Cod A)(r:ArgC B):ArgC (A×B) where
 d|[]=>none
  |v::l=>U4 (c.d v) (r.d l)
 e p:=c.e p.1::r.e p.2
 h l a h:=by
  split at h
  .cases h
  .rename_i v l
   unfold U4 at h
   split at h
   .rename_i x y hx hy
    simp only[jS]at h
    subst h
    obtain⟨g1,g2⟩:=r.h l y hy
    refine⟨by simp[g1],λj v1 v' z h1 h2 h3=>?_⟩
    cases j with
    |zero=>simp only[getElem?_cons_zero,jS]at h1 h2;subst h1;subst h2;exact c.h _ _ _ hx h3
    |succ j=>grind
   .cases h
 n a v hv:=by
  rcases mem_cons.1 hv with e|e
  .subst e;exact c.n _
  .exact r.n _ v e
theorem A58:ac0.d []=some ():=rfl
theorem A59{A:Type}(c:Cod A)(r:ArgC B)(v:SV)(l:List SV):(acS c r).d (v::l)=U4 (c.d v) (r.d l):=rfl
theorem gy{A:Type}(x:A)(y:B):U4 (some x) (some y)=some (x,y):=rfl
theorem FU(u:Unit):ac0.e u=[]:=rfl
theorem FV{A:Type}(c:Cod A)(r:ArgC B)(x:A)(y:B):(acS c r).e (x,y)=c.e x::r.e y:=rfl
def Pf{A:Type}(o:Option A)(Cd:A->Prop)(F:A->SV):Res:=
 match o with
 |some a=>some (Cd a,⟨F a,[]⟩,[])
 |none=>none
theorem lN{A:Type}(a:A)(Cd:A->Prop)(F:A->SV):Pf (some a) Cd F=some (Cd a,⟨F a,[]⟩,[]):=rfl
def Ca(P:Program)(f:FuncId){A:Type}(ac:ArgC A)(Cd:A->Prop)(F:A->SV):Prop:=
 ∀(a:A) (w:World) (fz:Nat->Prop) (xs:List Value),Cd a->(∀b,fz b->b<w.heap.size)->xs.length=(ac.e a).length->(∀(j:Nat) (v:SV) (x:Value),(ac.e a)[j]?=some v->xs[j]?=some x->CD (hp w) fz v x)->
  Calls P f xs.toArray w (KS w fz (λv=>v=F a))
section
variable {P:Program}
theorem Rc{X:Ctx}{w0 w w':World}{I:Nm}{lab:Lab}{fz:Nat->Prop}{H:Hp}(hA:AtW X w0 I lab fz H w)(h1:∀b,fz b->fz' b)(h2:∀b,fz' b->fz b∨w.heap.size<=b)(h3:∀b,fz' b->b<w'.heap.size)(hb:Below w.heap.size w w'){x:Value}
  (hn:v.names=[]) (hv:CD (hp w') fz' v x):I6 X w0 w I lab fz H (some v) [] x w':=by
 have hsame:∀b,b<w.heap.size->hp w' b=hp w b:=λb h=>hb.block b h
 refine⟨I,lab,fz',⟨?_,hA.wf,λb π h=>⟨Nat.lt_of_lt_of_le (hA.own b π h).1 hb.size,(hA.own b π h).2⟩,λb h=>⟨h3 b h,?_⟩,λb h=>?_,hA.kept.trans (Kept.of_below hb (λ_=>False)) (λ_ _ hf=>hf.elim),hA.fix⟩,?_,?_⟩
 .intro k ch hk
  have hz:∀b,fz b->fz' b/\hp w' b=hp w b:=λb h=>⟨h1 b h,hsame b (hA.fzl b h).1⟩
  have h0:=hA.h k ch hk
  cases ch with
  |dead=>trivial
  |fact p=>exact h0
  |vec u z es=>exact⟨h0.1,h0.2.1,IZ hz h0.2.2 (λb ρ h=>⟨h,hsame b (hA.own b _ h).1⟩) λ_ _ _ _ _ _ _ _=>rfl⟩
  |mp ag es=>exact Qi hz h0 (λb h=>⟨h,hsame b (hA.own b _ h).1⟩) rfl λ_ _=>rfl
 .rcases h2 b h with h|h
  .exact(hA.fzl b h).2
  .cases hl:lab b with
   |none=>rfl
   |some π=>have:=(hA.own b π hl).1;omega
 .rcases h2 b h with h|h
  .exact hA.fzo b h
  .exact .inr (.inl (Nat.le_trans hA.kept.size h))
 .intro s hs
  simp only[jS]at hs
  subst hs
  exact HT (λb h=>⟨h,rfl⟩) hn hv
 .refine⟨λb h=>⟨h1 b h,hsame b (hA.fzl b h).1⟩,λ_ _=>rfl,λk u p x hk hv=>?_⟩
  exact Fg hA rfl rfl (λb ρ h=>hsame b (hA.own b _ h).1) hv
def Dq{X:Ctx}{w0:World}(f:FuncId)(call:∀(args:Array Value) (w:World),(callFunc f args).run P w= .ok (.enter f args) w){A:Type}(ac:ArgC A)(Cd:A->Prop)(F:A->SV)(hF:∀a,(F a).names=[])(ok:Ca P f ac Cd F):Spec P X w0 where
 f:=f
 call:=call
 fn _ args _:=Pf (ac.d args) Cd F
 ok w I lab fz H t args xs c e fp hA ht h hc hd hl hx:=by
  refine PD ?_
  unfold Pf at h
  split at h
  .rename_i a ha
   simp only[jS,jP]at h
   obtain⟨rfl,rfl,rfl⟩:=h
   obtain⟨g1,g2⟩:=ac.h _ _ ha
   refine(ok a w fz xs hc (λb hb=>(hA.fzl b hb).1) (by rw[g1,hl]) ?_).mono ?_
   .intro j v x hj hxj
    have hjl:j<args.length:=by rw[hl];exact(List.getElem?_eq_some_iff.1 hxj).1
    have:=hx j _ x (getElem?_eq_getElem hjl) hxj
    exact HT (λb hb=>⟨hb,rfl⟩) (ac.n a v (mem_of_getElem? hj)) (g2 j _ v x (getElem?_eq_getElem hjl) hj this)
   .rintro en w' ⟨v,x,fz',rfl,rfl,h1,h2,h3,h4,h5,h6⟩
    exact⟨x,rfl,Rc hA h2 h3 h4 h6 h1 h5⟩
  .cases h
 dom t args H c e fp _ _ h _:=by
  unfold Pf at h
  split at h
  .simp only[jS,jP]at h
   obtain⟨rfl,rfl,rfl⟩:=h
   exact⟨(by rw[hF];intro k hk;exact(not_mem_nil hk).elim),λp hp'=>(not_mem_nil hp').elim⟩
  .cases h
 loc t args H H' c e fp h _:=h
theorem vz{X:Ctx}{w0:World}{A:Type}(f call)(ac:ArgC A)(Cd F hF ok):(Dq (P:=P) (X:=X) (w0:=w0) f call ac Cd F hF ok).f=f:=rfl
theorem pW{X:Ctx}{w0:World}{A:Type}(f call)(ac:ArgC A)(Cd F hF ok)(t:Nat)(args:List SV)(H:Hp):(Dq (P:=P) (X:=X) (w0:=w0) f call ac Cd F hF ok).fn t args H=Pf (ac.d args) Cd F:=rfl
def RES(r:SV):St->List SV->Prop:=λ_ vs=>(F0 vs).names=[]/\F0 vs=r
theorem A5A(r:SV)(s:St)(vs:List SV):RES r s vs=((F0 vs).names=[]/\F0 vs=r):=rfl
variable {X:Ctx}{w0:World}{sp:List (Spec P X w0)}{n:Nat}{g:Gh}{ops:Array Oper}
def lO(x:Option (Prop×Wr×List Nat))(sp:List (Spec P X w0))(n:Nat)(ops:Array Oper)(r:List Oper)(s:St)(tr:Trace)(T:Trace->Prop)(K:St->Prop):Prop:=
 match x with
 |some (c,x,f)=>c/\K3 sp n ops r (s.app x) ((x.us.map (·.1),f)::tr) T (J6 x.us K)
 |none=>False
def pX(o:Option St)(sp:List (Spec P X w0))(n:Nat)(ops:Array Oper)(l:List Oper)(T:Trace->Prop)(K:St->Prop):Prop:=
 match o with
 |some s=>K3 sp n ops l s [] T K
 |none=>False
def pY(Q:Exit->St->Prop):St->Prop:=λs=>Q .normal s
def ZX:Trace->Prop:=λ_=>True
def rW(ops:Array Oper):Trace->Prop:=λtr=>Sq ops tr.reverse=true
def A0s(X:Ctx)(w0:World)(sp:List (Spec P X w0))(n:Nat)(g:Gh)(b:Code)(Q:Exit->St->Prop):St->Prop:=λs=>vc X w0 sp n g b s Q
def rX(v:Option SV)(X:Ctx)(w0:World)(sp:List (Spec P X w0))(n:Nat)(g:Gh)(c:Operand)(x y:Code)(s:St)(Q:Exit->St->Prop):Prop:=
 match v with
 |some (.one (.v (.bool b)))=>rdg (lkp s.e) c=true/\(b=true->vc X w0 sp n g x s Q)/\(b=false->vc X w0 sp n g y s Q)
 |_=>False
theorem Bn{o:Array Oper}{t:Trace}(h:Sq o t=true):Sq o t=true:=h
def AD(b:Bool)(p:Prop):Prop:=b=true->p
def AE(b:Bool)(p:Prop):Prop:=b=false->p
theorem e_impBt(p:Prop):AD true p=p:=by simp[AD]
theorem e_impBf(p:Prop):AD false p=True:=by simp[AD]
theorem e_impNt(p:Prop):AE true p=True:=by simp[AE]
theorem e_impNf(p:Prop):AE false p=p:=by simp[AE]
theorem e_nil(s:St)(tr:Trace)(T:Trace->Prop)(K:St->Prop):K3 sp n ops [] s tr T K=(T tr/\K s):=rfl
theorem e_cons(o:Oper)(r:List Oper)(s:St)(tr:Trace)(T:Trace->Prop)(K:St->Prop):K3 sp n ops (o::r) s tr T K=lO (opG sp n ops o (lkp s.e) (lkp s.h)) sp n ops r s tr T K:=rfl
theorem A0t(c:Prop)(x:Wr)(f:List Nat)(r:List Oper)(s:St)(tr:Trace)(T:Trace->Prop)(K:St->Prop):
  lO (some (c,x,f)) sp n ops r s tr T K=(c/\K3 sp n ops r (s.app x) ((x.us.map (·.1),f)::tr) T (J6 x.us K)):=rfl
theorem e_fac0(K:St->Prop):J6 [] K=K:=rfl
theorem e_fac1(t u:Nat)(z:List C)(es:List (List C))(r:List (Nat×Ch))(K:St->Prop):J6 ((t,.vec u z es)::r) K=J6 r K:=rfl
theorem e_fac2(t:Nat)(r:List (Nat×Ch))(K:St->Prop):J6 ((t,.dead)::r) K=J6 r K:=rfl
theorem e_fac3(t:Nat)(p:Prop)(r:List (Nat×Ch))(K:St->Prop):J6 ((t,.fact p)::r) K=J6 r (λs=>Y2 (lkp s.h t) p K s):=rfl
theorem A86(s:St)(l:List Oper)(T:Trace->Prop)(K:St->Prop):pX (some s) sp n ops l T K=K3 sp n ops l s [] T K:=rfl
theorem e_nrmK(Q:Exit->St->Prop)(s:St):pY Q s=Q .normal s:=rfl
theorem e_textT(tr:Trace):ZX tr=True:=rfl
theorem e_drawK(tr:Trace):rW ops tr=(Sq ops tr.reverse=true):=rfl
theorem e_seqK(b:Code)(Q:Exit->St->Prop)(s:St):A0s X w0 sp n g b Q s=vc X w0 sp n g b s Q:=rfl
theorem w7(b:Bool)(c:Operand)(x y:Code)(s:St)(Q:Exit->St->Prop):
  rX (some (.one (.v (.bool b)))) X w0 sp n g c x y s Q=(rdg (lkp s.e) c=true/\AD b (vc X w0 sp n g x s Q)/\AE b (vc X w0 sp n g y s Q)):=rfl
theorem e_skip(s:St)(Q:Exit->St->Prop):vc X w0 sp n g .skip s Q=Q .normal s:=rfl
theorem e_label(l:Nat)(s:St)(Q:Exit->St->Prop):vc X w0 sp n g (.label l) s Q=Q .normal s:=rfl
theorem e_text(id:Nat)(l:List Oper)(s:St)(Q:Exit->St->Prop):vc X w0 sp n g (.region id l.toArray false) s Q=pX (JE s (Y1 g id)) sp n l.toArray l ZX (pY Q):=rfl
theorem e_draw(id:Nat)(l:List Oper)(s:St)(Q:Exit->St->Prop):vc X w0 sp n g (.region id l.toArray true) s Q=pX (JE s (Y1 g id)) sp n l.toArray l (rW l.toArray) (pY Q):=rfl
theorem e_seq(a b:Code)(s:St)(Q:Exit->St->Prop):vc X w0 sp n g (.seq a b) s Q=vc X w0 sp n g a s (MH (A0s X w0 sp n g b Q) Q):=rfl
theorem e_cond(c:Operand)(x y:Code)(s:St)(Q:Exit->St->Prop):vc X w0 sp n g (.cond c x y) s Q=rX (rdv (lkp s.e) c) X w0 sp n g c x y s Q:=rfl
theorem e_block(id:Nat)(c:Code)(s:St)(Q:Exit->St->Prop):vc X w0 sp n g (.block id c) s Q=vc X w0 sp n g c s (inQ id Q):=rfl
theorem e_exit(id:Nat)(s:St)(Q:Exit->St->Prop):vc X w0 sp n g (.exit id) s Q=Q (.exit id) s:=rfl
theorem e_ret(s:St)(Q:Exit->St->Prop):vc X w0 sp n g .ret s Q=Q .ret s:=rfl
theorem e_loop(c:Code)(s:St)(Q:Exit->St->Prop):vc X w0 sp n g (.loop c) s Q=Tri (P:=P) X w0 n (.loop c) s Q:=rfl
theorem e_then1(K:St->Prop)(Q:Exit->St->Prop)(s:St):MH K Q .normal s=K s:=rfl
theorem e_then2(K:St->Prop)(Q:Exit->St->Prop)(s:St):MH K Q .ret s=Q .ret s:=rfl
theorem e_then3(K:St->Prop)(Q:Exit->St->Prop)(s:St)(j:Nat):MH K Q (.exit j) s=Q (.exit j) s:=rfl
theorem e_in1(id:Nat)(Q:Exit->St->Prop)(s:St):inQ id Q .normal s=Q .normal s:=rfl
theorem e_in2(id:Nat)(Q:Exit->St->Prop)(s:St):inQ id Q .ret s=Q .ret s:=rfl
theorem e_in3(id j:Nat)(Q:Exit->St->Prop)(s:St):inQ id Q (.exit j) s=if j=id then Q .normal s else Q (.exit j) s:=rfl
def pZ(o:Option St)(P:Program)(rs:List ResultVar)(R:St->List SV->Prop):Prop:=
 match o with
 |some s'=>∃vs,LY P s' rs=some vs/\NA vs=true/\R s' vs
 |none=>False
theorem A1(cs:List Cmd){rs:List ResultVar}{R:St->List SV->Prop}{s:St}(h:pZ (JE s cs) P rs R):Mx P X rs R s:=by
 unfold pZ at h
 split at h
 .rename_i s' hs
  obtain⟨vs,h⟩:=h
  exact⟨cs,s',vs,hs,h⟩
 exact h.elim
theorem A0u(s:St)(rs:List ResultVar)(R:St->List SV->Prop):pZ (some s) P rs R=∃vs,LY P s rs=some vs/\NA vs=true/\R s vs:=rfl
theorem w8(rs:List ResultVar)(R:St->List SV->Prop)(s:St):My P X rs R .normal s=Mx P X rs R s:=rfl
theorem w9(rs:List ResultVar)(R:St->List SV->Prop)(s:St):My P X rs R .ret s=Mx P X rs R s:=rfl
theorem A87(v:α)(p:α->Prop):(∃x,some v=some x/\p x)=p v:=by simp
theorem pb(d:Option Tmp)(op:Op)(t:TypeId)(pos:String)(af:Array Edge)(E:Env):guardOf ops ⟨d,op,t,pos,af,none⟩ E=some true:=rfl
theorem A0v(id:Nat):Y1 [] id=[]:=rfl
theorem wA(s:St):JE s []=some s:=rfl
def To1(X:Ctx)(o:Option St)(t:St):Prop:=
 match o with
 |some s=>Sub s t/\∀p∈X.F,(t.h.map (·.1)).contains p.1=true
 |none=>False
theorem A2(cs:List Cmd){s t:St}(h:To1 X (JE s cs) t):To X s t:=by
 unfold To1 at h
 split at h
 .rename_i s' hs;exact vu hs h.1 h.2
 exact h.elim
end
theorem wrap_i64{n:Int}(h1 : -9223372036854775808<=n)(h2:n<=9223372036854775807):IntKind.i64.wrap n=n:=IntWalk.i64_in n ⟨h1,h2⟩
open Go.RowKit
structure CodH(A:Type) where
 d:Hp->SV->Option (A×List Nat)
 e:A->SV
 h:∀{X:Ctx} {w0 w:World} {I:Nm} {lab:Lab} {fz:Nat->Prop} {H:Hp} (v:SV) (a:A) (fp:List Nat) (x:Value),AtW X w0 I lab fz H w->d H v=some (a,fp)->Ap (hp w) fz lab I H v x->CD (hp w) (λb=>b<w.heap.size) (e a) x
 n:∀a,(e a).names=[]
 l:∀(H H':Hp) (v:SV) (a:A) (fp:List Nat),d H v=some (a,fp)->(∀k∈fp,H' k=H k)->d H' v=some (a,fp)
def Cod.H{A:Type}(c:Cod A):CodH A where
 d _ v:=(c.d v).map λa=>(a,[])
 e:=c.e
 h v a fp x hA h r:=by
  simp only[map_eq_some_iff,jP]at h
  obtain⟨a',h,rfl,rfl⟩:=h
  exact HT (λb hb=>⟨(hA.fzl b hb).1,rfl⟩) (c.n _) (c.h v _ x h r)
 n:=c.n
 l H H' v a fp h _:=h
structure RowC(B:Type) where
 z:List D
 d:List D->Option B
 e:B->List D
 h:∀r b,d r=some b->r=e b
 i:∀b,d (e b)=some b
 n:∀b,(e b).length=z.length
def Re{B:Type}(d:List D->Option B):List (List D)->Option (List B)
 |[]=>some []
 |r::rs=>match d r,Re d rs with
  |some b,some l=>some (b::l)
  |_,_=>none
theorem eW{B:Type}(c:RowC B):∀{es:List (List D)} {l:List B},Re c.d es=some l->es=l.map c.e
 |[],l,h=>by simp only[Re,jS]at h;subst h;rfl
 |r::rs,l,h=>by
  simp only[Re]at h
  split at h
  .rename_i b l' h1 h2
   simp only[jS]at h
   subst h
   rw[c.h r b h1,eW c h2];rfl
  cases h
theorem V9{B:Type}(c:RowC B):∀(l:List B),Re c.d (l.map c.e)=some l
 |[]=>rfl
 |b::l=>by simp only[map_cons,Re,c.i,V9 c l]
def slD{B:Type}(d:List D->Option B)(s:Nat)(fp:List Nat):Option (List D)->Option (List (List D))->Option (List B×List Nat)
 |some z,some es=>if z.length=s then (Re d es).map λl=>(l,fp) else none
 |_,_=>none
def slR{B:Type}(c:RowC B)(H:Hp):SV->Option (List B×List Nat)
 | .one (.s k)=>match H k with
  |some (.vec _ z es)=>slD c.d c.z.length [k] (GD z) (EZ es)
  |_=>none
 | .one (.d (.sl z es))=>slD c.d c.z.length [] (some z) (some es)
 | .one (.df z es)=>slD c.d c.z.length [] (some z) (some es)
 | .one (.v (.slice none 0 0))=>some ([],[])
 |_=>none
theorem A88{h:Bf}{fz:Nat->Prop}{z z':List D}{es:List (List D)}{x:Value}(hl:z.length=z'.length)(r:Rd h fz (.sl z es) x):Rd h fz (.sl z' es) x:=by
 cases r with
 |nil _ a cap h0=>exact .nil z' a cap h0
 |sl _ _ b off cap arr T m val hz hb hcap h1 h2 h3=>exact .sl z' es b off cap arr T m val hz hb hcap (λi cs h=>(h1 i cs h).trans hl) (λi j cs d g1 g2=>by rw[<- hl];exact h2 i j cs d g1 g2) h3
def cSl{B:Type}(c:RowC B):CodH (List B) where
 d:=slR c
 e l:=.one (.d (.sl c.z (l.map c.e)))
 h:=λ{X w0 w I lab fz H} v a fp x hA h r=>by
  have fin:∀{z:List D} {es:List (List D)} {fz':Nat->Prop} {fp'},(∀b,fz' b->b<w.heap.size)->slD c.d c.z.length fp' (some z) (some es)=some (a,fp)->Rd (hp w) fz' (.sl z es) x->CD (hp w) (λb=>b<w.heap.size) (.one (.d (.sl c.z (a.map c.e)))) x:=by
   intro z es fz' fp' hlt h r
   simp only[slD]at h
   split at h
   .rename_i hz
    simp only[map_eq_some_iff,jP]at h
    obtain⟨l,hl,rfl,rfl⟩:=h
    rw[eW c hl]at r
    exact⟨rfl,.d _ _ _ (Ff (λb hb=>⟨hlt b hb,rfl⟩) (A88 hz r))⟩
   .cases h
  unfold slR at h
  split at h
  .rename_i k
   split at h
   .rename_i u z es hk
    have h0:=h
    cases hz:GD z with
    |none=>rw[hz]at h;simp[slD]at h
    |some z'=>
     cases he:EZ es with
     |none=>rw[hz,he]at h;simp[slD]at h
     |some es'=>
      rw[hz,he]at h
      obtain⟨lab',fz',h1,_,h3,_⟩:=ZU hA hk hz he
      have hx:=r.2
      cases hx
      exact fin (λb hb=>(h1.fzl b hb).1) h h3
   .cases h
  .have hx:=r.2
   cases hx with|d _ _ _ r=>exact fin (λb hb=>(hA.fzl b hb).1) h r
  .have hx:=r.2
   cases hx with|df _ _ _ _ r2=>exact fin (λb hb=>(hA.fzl b hb).1) h r2
  .simp only[jS,jP]at h
   obtain⟨rfl,rfl⟩:=h
   have hx:=r.2
   cases hx
   exact⟨rfl,.d _ _ _ (.nil _ none 0 (λ_=>rfl))⟩
  .cases h
 n a:=rfl
 l H H' v a fp h hf:=by
  unfold slR at*
  split at h
  .rename_i k
   split at h
   .rename_i u z es hk
    have hfp:k∈fp:=by
     unfold slD at h
     split at h
     .split at h
      .simp only[map_eq_some_iff,jP]at h
       obtain⟨_,_,_,rfl⟩:=h;simp
      .cases h
     .cases h
    simp only[hf k hfp,hk]
    exact h
   .cases h
  .exact h
  .exact h
  .exact h
  .cases h
theorem A5B(c:RowC B)(H:Hp)(v:SV):(cSl c).d H v=slR c H v:=rfl
theorem A5C(c:RowC B)(l:List B):(cSl c).e l= .one (.d (.sl c.z (l.map c.e))):=rfl
structure ArgH(A:Type) where
 d:Hp->List SV->Option (A×List Nat)
 e:A->List SV
 h:∀(H:Hp) (l:List SV) (a:A) (fp:List Nat),d H l=some (a,fp)->(e a).length=l.length/\∀{X:Ctx} {w0 w:World} {I:Nm} {lab:Lab} {fz:Nat->Prop} (j:Nat) (v v':SV) (x:Value),AtW X w0 I lab fz H w->l[j]?=some v->(e a)[j]?=some v'->Ap (hp w) fz lab I H v x->CD (hp w) (λb=>b<w.heap.size) v' x
 n:∀a,∀v∈e a,v.names=[]
 l:∀(H H':Hp) (v:List SV) (a:A) (fp:List Nat),d H v=some (a,fp)->(∀k∈fp,H' k=H k)->d H' v=some (a,fp)
def ah0:ArgH Unit where
 d|_,[]=>some ((),[])
  |_,_=>none
 e _:=[]
 h H l a fp h:=by grind
 n a v hv:=by cases hv
 l H H' v a fp h _:=by grind
def U5{A B:Type}:Option (A×List Nat)->Option (B×List Nat)->Option ((A×B)×List Nat)
 |some (x,f),some (y,g)=>some ((x,y),f++g)
 |_,_=>none
def ahS{A B:Type}(c:CodH A)(r:ArgH B):ArgH (A×B) where
 d|_,[]=>none
  |H,v::l=>U5 (c.d H v) (r.d H l)
 e p:=c.e p.1::r.e p.2
 h H l a fp h:=by
  split at h
  .cases h
  .rename_i v l
   unfold U5 at h
   split at h
   .rename_i x f y g hx hy
    simp only[jS,jP]at h
    obtain⟨rfl,rfl⟩:=h
    obtain⟨g1,g2⟩:=r.h H l y g hy
    refine⟨by simp[g1],λj v1 v' z hA h1 h2 h3=>?_⟩
    cases j with
    |zero=>simp only[getElem?_cons_zero,jS]at h1 h2;subst h1;subst h2;exact c.h _ _ _ _ hA hx h3
    |succ j=>grind
   .cases h
 n a v hv:=by
  rcases mem_cons.1 hv with e|e
  .subst e;exact c.n _
  .exact r.n _ v e
 l H H' v a fp h hf:=by
  split at h
  .cases h
  .unfold U5 at h
   split at h
   .rename_i x f y g hx hy
    simp only[jS,jP]at h
    obtain⟨rfl,rfl⟩:=h
    simp only[c.l _ _ _ _ _ hx (λk hk=>hf k (List.mem_append_left _ hk)),r.l _ _ _ _ _ hy (λk hk=>hf k (List.mem_append_right _ hk)),U5]
   .cases h
theorem A5D(H:Hp):ah0.d H []=some ((),[]):=rfl
theorem A5E{A:Type}(c:CodH A)(r:ArgH B)(H:Hp)(v:SV)(l:List SV):(ahS c r).d H (v::l)=U5 (c.d H v) (r.d H l):=rfl
theorem gz{A:Type}(x:A)(y:B)(f g:List Nat):U5 (some (x,f)) (some (y,g))=some ((x,y),f++g):=rfl
theorem A5F(u:Unit):ah0.e u=[]:=rfl
theorem A5G{A:Type}(c:CodH A)(r:ArgH B)(x:A)(y:B):(ahS c r).e (x,y)=c.e x::r.e y:=rfl
theorem A0w{A:Type}(c:Cod A)(H:Hp)(v:SV):c.H.d H v=(c.d v).map λa=>(a,[]):=rfl
theorem A0x{A:Type}(c:Cod A)(a:A):c.H.e a=c.e a:=rfl
def U6{A:Type}(o:Option (A×List Nat))(Cd:A->Prop)(F:A->Value):Res:=
 match o with
 |some (a,fp)=>some (Cd a,⟨ofV (F a),[]⟩,fp)
 |none=>none
theorem hX{A:Type}(a:A)(fp:List Nat)(Cd:A->Prop)(F:A->Value):U6 (some (a,fp)) Cd F=some (Cd a,⟨ofV (F a),[]⟩,fp):=rfl
def Mg(P:Program)(f:FuncId){A:Type}(ac:ArgH A)(Cd:A->Prop)(F:A->SV):Prop:=
 ∀(a:A) (w:World) (fz:Nat->Prop) (xs:List Value),Cd a->(∀b,fz b->b<w.heap.size)->xs.length=(ac.e a).length->(∀(j:Nat) (v:SV) (x:Value),(ac.e a)[j]?=some v->xs[j]?=some x->CD (hp w) fz v x)->
  Calls P f xs.toArray w (KS w fz (λv=>v=F a))
def Rf{P:Program}{X:Ctx}{w0:World}(f:FuncId)(call:∀(args:Array Value) (w:World),(callFunc f args).run P w= .ok (.enter f args) w){A:Type}(ac:ArgH A)(Cd:A->Prop)(F:A->Value)(hF:∀a,okV (F a)=true)(ok:Mg P f ac Cd (λa=>ofV (F a))):Spec P X w0 where
 f:=f
 call:=call
 fn _ args H:=U6 (ac.d H args) Cd F
 ok w I lab fz H t args xs c e fp hA ht h hc hd hl hx:=by
  refine PD ?_
  unfold U6 at h
  split at h
  .rename_i a fp' ha
   simp only[jS,jP]at h
   obtain⟨rfl,rfl,rfl⟩:=h
   obtain⟨g1,g2⟩:=ac.h _ _ _ _ ha
   refine(ok a w (λb=>b<w.heap.size) xs hc (λb hb=>hb) (by rw[g1,hl]) ?_).mono ?_
   .intro j v x hj hxj
    have hjl:j<args.length:=by rw[hl];exact(List.getElem?_eq_some_iff.1 hxj).1
    exact g2 j _ v x hA (getElem?_eq_getElem hjl) hj (hx j _ x (getElem?_eq_getElem hjl) hxj)
   .rintro en w' ⟨v,x,fz',rfl,rfl,h1,h2,h3,h4,h5,h6⟩
    have hxv:x=F a:=by
     have hcl:OU (ofV (F a))=some (F a):=by
      have hf:=hF a
      cases hv:F a with
      |agg cs=>
       have key:∀l:List Value,clL (l.map .v)=some l:=by
        intro l;induction l with
        |nil=>rfl
        |cons v l ih=>simp[clL,clC,ih]
       simp[ofV,OU,key]
      |tuple vs=>rw[hv]at hf;simp[okV]at hf
      |_=>rfl
     exact Gq h5 hcl
    subst hxv
    exact⟨_,rfl,Rc hA (λb h=>h) (λb h=>.inl h) (λb h=>Nat.lt_of_lt_of_le (hA.fzl b h).1 h6.size) h6 h1 (LW (w:=w') (hF a))⟩
  .cases h
 dom t args H c e fp _ _ h _:=by
  unfold U6 at h
  split at h
  .rename_i a fp' ha
   simp only[jS,jP]at h
   obtain⟨rfl,rfl,rfl⟩:=h
   exact⟨(by rw[HS (hF a)];intro k hk;exact(not_mem_nil hk).elim),λp hp'=>(not_mem_nil hp').elim⟩
  .cases h
 loc t args H H' c e fp h hf:=by
  unfold U6 at h ⊢
  split at h
  .rename_i a fp' ha
   simp only[jS,jP]at h
   obtain⟨rfl,rfl,rfl⟩:=h
   rw[ac.l _ _ _ _ _ ha hf]
  .cases h
theorem wB{P:Program}{X:Ctx}{w0:World}{A:Type}(f call)(ac:ArgH A)(Cd F hF ok):(Rf (P:=P) (X:=X) (w0:=w0) f call ac Cd F hF ok).f=f:=rfl
theorem pd{P:Program}{X:Ctx}{w0:World}{A:Type}(f call)(ac:ArgH A)(Cd F hF ok)(t:Nat)(args:List SV)(H:Hp):(Rf (P:=P) (X:=X) (w0:=w0) f call ac Cd F hF ok).fn t args H=U6 (ac.d H args) Cd F:=rfl
def okT:Value->Bool
 | .tuple vs=>vs.toList.all okV
 |x=>okV x
abbrev MV:=List C×List (List C)
def chO:Option MV->Ch
 |some m=>.vec 0 m.1 m.2
 |none=>.dead
def memO:Nat->List (Option MV)->List (Nat×Ch)
 |_,[]=>[]
 |i,o::r=>(i,chO o)::memO (i+1) r
def GE(i:Nat)(l:List MV):List (Nat×Ch):=memO i (l.map some)
def memF(I:Nm):Nat->Nat->List (Nat×NV)
 |_,0=>[]
 |i,n+1=>(i,I i)::memF I (i+1) n
abbrev mX(M fz:Nat->Prop)(I:Nm)(n:Nat):Ctx:=⟨M,fz,memF I 0 n,none,[],[]⟩
theorem bi:∀(l:List (Option MV)) (i k:Nat),lkp (memO i l) k=if i<=k then (l[k-i]?).map chO else none
 |[],i,k=>by simp[memO,lkp]
 |o::r,i,k=>by
  simp only[memO,lkp]
  by_cases h:k=i
  .subst h;simp
  rw[if_neg h,bi r (i+1) k]
  by_cases h2:i<=k
  .grind
  grind
theorem Hh(l:List (Option MV))(k:Nat):lkp (memO 0 l) k=(l[k]?).map chO:=by rw[bi];simp
theorem Ih{I:Nm}{p:Nat×NV}:∀{n i:Nat},p∈memF I i n->i<=p.1/\p.1<i+n/\p.2=I p.1
 |0,i,h=>by cases h
 |n+1,i,h=>by
  rcases mem_cons.1 h with rfl|h
  .simp_all
  obtain⟨h1,h2,h3⟩:=Ih h
  exact⟨by omega,by omega,h3⟩
theorem VA{I:Nm}:∀{n i:Nat},i<=k->k<i+n->(k,I k)∈memF I i n
 |0,i,h1,h2=>by omega
 |n+1,i,h1,h2=>by
  by_cases e:k=i
  .subst e;exact mem_cons_self ..
  exact mem_cons_of_mem _ (VA (by omega) (by omega))
theorem PI:∀(l:List (Option MV)) (i k:Nat),i<=k->k<i+l.length->((memO i l).map (·.1)).contains k=true
 |[],i,k,h1,h2=>by simp at h2;omega
 |o::r,i,k,h1,h2=>by
  simp only[memO,map_cons,List.contains_cons,or_eq_true,beq_iff_eq]
  by_cases e:k=i
  .exact .inl e
  exact .inr (PI r (i+1) k (by omega) (by simp only[length_cons]at h2;omega))
section
variable {X:Ctx}{w0 w:World}{I:Nm}{lab:Lab}{fz:Nat->Prop}
theorem Qo{s t:List (Nat×Ch)}(hA:AtW X w0 I lab fz (lkp s) w)(h2:∀p∈t,KR (lkp s p.1) p.2/\Kk t (chNames p.2))(hF:∀p∈X.F,(t.map (·.1)).contains p.1=true):AtW X w0 I lab fz (lkp t) w:=by
 have hdom:∀{l},Kk t l->Dom (lkp t) l:=λhl k hk=>Qn (hl k hk)
 refine⟨?_,λk ch hk=>hdom (h2 _ (M1 hk)).2,hA.own,hA.fzl,hA.fzo,hA.kept,λp hp'=>⟨Qn (hF p hp'),(hA.fix p hp').2⟩⟩
 intro k ch hk
 obtain⟨g1,g2⟩:=h2 _ (M1 hk)
 simp only at g1 g2
 cases hs':lkp s k with
 |none=>rw[hs']at g1;exact g1.elim
 |some c0=>
 rw[hs']at g1
 have h0:=hA.h k c0 hs'
 exact RG
theorem Nv{h:Bf}{H H':Hp}{x:Value}(hn:LX v=true)(r:Ap h fz lab I H v x):Ap h fz lab I H' v x:=by
 have scn:∀{c x},F3 c=true->SC h fz lab I H c x->SC h fz lab I H' c x:=by
  intro c x hn r
  cases c<;>first|exact r|cases hn
 have csn:∀{l arr},l.all F3=true->ER h fz lab I H l arr->ER h fz lab I H' l arr:=by
  intro l arr hn r
  refine⟨r.1,λj c hj=>?_⟩
  obtain⟨y,y1,y2⟩:=r.2 j c hj
  exact⟨y,y1,scn (all_eq_true.1 hn c (mem_of_getElem? hj)) y2⟩
 cases v with
 |one c=>exact scn hn r
 |agg l=>obtain⟨arr,e1,e2⟩:=r;exact⟨arr,e1,csn hn e2⟩
 |tup l=>
 obtain⟨arr,e1,e2,e3⟩:=r
 refine⟨arr,e1,e2,λj p hj=>?_⟩
 obtain⟨y,y1,y2⟩:=e3 j p hj
 have hq:=all_eq_true.1 hn p (mem_of_getElem? hj)
 exact AAu
end
def LZ(w:World)(M fz:Nat->Prop)(I:Nm)(n:Nat)(m':List (Option MV))(R:SV)(en:Ending)(w':World):Prop:=
 ∃x I' lab' fz',en= .returned x/\AtW (mX M fz I n) w I' lab' fz' (lkp (memO 0 m')) w'/\Ap (hp w') fz' lab' I' (lkp (memO 0 m')) R x
def C7(P:Program)(f:FuncId){A:Type}(args:A->List SV)(mem:A->List MV)(Cd:A->Prop)(res:A->SV)(mem':A->List (Option MV)):Prop:=
 ∀(a:A) (w:World) (M:Nat->Prop) (I:Nm) (lab:Lab) (fz:Nat->Prop) (xs:List Value),Cd a->AtW (mX M fz I (mem a).length) w I lab fz (lkp (GE 0 (mem a))) w->xs.length=(args a).length->
  (∀(j:Nat) (v:SV) (x:Value),(args a)[j]?=some v->xs[j]?=some x->Ap (hp w) fz lab I (lkp (GE 0 (mem a))) v x)->Calls P f xs.toArray w (LZ w M fz I (mem a).length (mem' a) (res a))
def pe(r:SV)(m':List (Option MV)):St->List SV->Prop:=λs vs=>F0 vs=r/\LX r=true/\∀p∈memO 0 m',KR (lkp s.h p.1) p.2/\Kk (memO 0 m') (chNames p.2)
theorem A0y(r:SV)(m':List (Option MV))(s:St)(vs:List SV):pe r m' s vs=(F0 vs=r/\LX r=true/\∀p∈memO 0 m',KR (lkp s.h p.1) p.2/\Kk (memO 0 m') (chNames p.2)):=rfl
section
variable {P:Program}
end
structure RowM(B:Type) where
 z:List C
 d:List C->Option B
 e:B->List C
 h:∀r b,d r=some b->r=e b
 n:∀b,∀c∈e b,c.names=[]
 t:zT z=none:=by first|rfl|decide
structure ArgM(A:Type) where
 d:Hp->List SV->Option (A×List Nat)
 args:Nat->A->List SV
 mem:A->List MV
 h:∀(H:Hp) (l:List SV) (a:A) (ks:List Nat),d H l=some (a,ks)->(∀i,(args i a).length=l.length)/\ks.length=(mem a).length/\∀(i k:Nat),ks[i]?=some k->∃u z m,H k=some (.vec u z m.2)/\(mem a)[i]?=some m/\z.length=m.1.length
 ha:∀(H:Hp) (l:List SV) (a:A) (ks:List Nat) (i0 j:Nat) (v v':SV) (x:Value) {hh:Bf} {fz:Nat->Prop} {lab lab':Lab} {I I':Nm} {H0 H':Hp},d H l=some (a,ks)->l[j]?=some v->(args i0 a)[j]?=some v'->(∀i k,ks[i]?=some k->I' (i0+i)=I k)->Ap hh fz lab I H0 v x->Ap hh fz lab' I' H' v' x
 n:∀a,∀m∈mem a,∀r∈m.2,∀c∈r,c.names=[]
 tz:∀a,∀m∈mem a,zT m.1=none
 an:∀i a,∀v∈args i a,∀k∈v.names,i<=k/\k<i+(mem a).length
 l:∀(H H':Hp) (v:List SV) (a:A) (ks:List Nat),d H v=some (a,ks)->(∀k∈ks,H' k=H k)->d H' v=some (a,ks)
def am0:ArgM Unit where
 d|_,[]=>some ((),[])
  |_,_=>none
 args _ _:=[]
 mem _:=[]
 h H l a ks h:=by grind
 ha H l a ks i0 j v v' x _ _ _ _ _ _ _ _ _ _ h2:=by simp at h2
 n a m hm:=by cases hm
 tz a m hm:=by cases hm
 an i a v hv:=by cases hv
 l H H' v a ks h _:=by grind
def Rg{A B:Type}(f:List Nat):Option A->Option (B×List Nat)->Option ((A×B)×List Nat)
 |some x,some (y,g)=>some ((x,y),f++g)
 |_,_=>none
theorem hY{A:Type}(f g:List Nat)(x:A)(y:B):Rg f (some x) (some (y,g))=some ((x,y),f++g):=rfl
def amD{A B:Type}(c:Cod A)(r:ArgM B):ArgM (A×B) where
 d|_,[]=>none
  |H,v::l=>Rg [] (c.d v) (r.d H l)
 args i p:=c.e p.1::r.args i p.2
 mem p:=r.mem p.2
 h H l a ks h:=by
  split at h
  .cases h
  .rename_i v l
   unfold Rg at h
   split at h
   .rename_i x y g hx hy
    simp only[jS,jP]at h
    obtain⟨rfl,rfl⟩:=h
    obtain⟨g1,g2,g3⟩:=r.h H l y g hy
    exact⟨λi=>by simp[g1 i],g2,g3⟩
   .cases h
 ha H l a ks i0 j v v' x hh fz lab lab' I I' H0 H' h h1 h2 h3 h4:=by
  split at h
  .cases h
  .rename_i u l
   unfold Rg at h
   split at h
   .rename_i x0 y g hx hy
    simp only[jS,jP]at h
    obtain⟨rfl,rfl⟩:=h
    cases j with
    |zero=>
     simp only[getElem?_cons_zero,jS]at h1 h2
     subst h1;subst h2
     exact HT (λb hb=>⟨hb,rfl⟩) (c.n _) (c.h _ _ _ hx h4)
    |succ j=>exact r.ha H l y g i0 j v v' x hy (by simpa using h1) (by simpa using h2) h3 h4
   .cases h
 n a:=r.n a.2
 tz a:=r.tz a.2
 an i a v hv k hk:=by
  rcases mem_cons.1 hv with e|e
  .subst e;rw[c.n]at hk;cases hk
  .exact r.an i a.2 v e k hk
 l H H' v a ks h hf:=by
  split at h
  .cases h
  .unfold Rg at h
   split at h
   .rename_i x y g hx hy
    simp only[jS,jP]at h
    obtain⟨rfl,rfl⟩:=h
    simp only[hx,r.l _ _ _ _ _ hy hf,Rg]
   .cases h
def Y3{B:Type}(c:RowM B)(H:Hp):SV->Option (B×Nat)
 | .one (.p k 0 0)=>match H k with
  |some (.vec _ z [r])=>if z.length=c.z.length then (c.d r).map λb=>(b,k) else none
  |_=>none
 |_=>none
def Ph{B:Type}(d:List C->Option B):List (List C)->Option (List B)
 |[]=>some []
 |r::rs=>match d r,Ph d rs with
  |some b,some l=>some (b::l)
  |_,_=>none
theorem eX{B:Type}(c:RowM B):∀{es:List (List C)} {l:List B},Ph c.d es=some l->es=l.map c.e
 |[],l,h=>by simp only[Ph,jS]at h;subst h;rfl
 |r::rs,l,h=>by
  simp only[Ph]at h
  split at h
  .rename_i b l' h1 h2
   simp only[jS]at h
   subst h
   rw[c.h r b h1,eX c h2];rfl
  cases h
def Y4{B:Type}(c:RowM B)(H:Hp):SV->Option (List B×Nat)
 | .one (.s k)=>match H k with
  |some (.vec _ z es)=>if z.length=c.z.length then (Ph c.d es).map λb=>(b,k) else none
  |_=>none
 |_=>none
def PJ{A B:Type}:Option (A×Nat)->Option (B×List Nat)->Option ((A×B)×List Nat)
 |some (x,k),some (y,g)=>some ((x,y),k::g)
 |_,_=>none
theorem iA{A:Type}(k:Nat)(g:List Nat)(x:A)(y:B):PJ (some (x,k)) (some (y,g))=some ((x,y),k::g):=rfl
theorem eY{c:RowM B}{H:Hp}{b:B}(h:Y3 c H v=some (b,k)):v= .one (.p k 0 0)/\∃u z,H k=some (.vec u z [c.e b])/\z.length=c.z.length:=by
 unfold Y3 at h
 split at h
 .rename_i k'
  split at h
  .rename_i u z r hk
   split at h
   .rename_i hz
    simp only[map_eq_some_iff,jP]at h
    obtain⟨b',hb,rfl,rfl⟩:=h
    refine⟨rfl,u,z,?_,hz⟩
    rw[hk,c.h r b' hb]
   cases h
  cases h
 cases h
theorem eZ{c:RowM B}{H:Hp}{b:List B}(h:Y4 c H v=some (b,k)):v= .one (.s k)/\∃u z,H k=some (.vec u z (b.map c.e))/\z.length=c.z.length:=by
 unfold Y4 at h
 split at h
 .rename_i k'
  split at h
  .rename_i u z es hk
   split at h
   .rename_i hz
    simp only[map_eq_some_iff,jP]at h
    obtain⟨b',hb,rfl,rfl⟩:=h
    refine⟨rfl,u,z,?_,hz⟩
    rw[hk,eX c hb]
   cases h
  cases h
 cases h
def amX{A B:Type}(dd:Hp->SV->Option (A×Nat))(e:Nat->SV)(m:A->MV)(h1:∀{H:Hp} {v:SV} {b:A} {k:Nat},dd H v=some (b,k)->v=e k/\∃u z,H k=some (.vec u z (m b).2)/\z.length=(m b).1.length)
  (h2:∀{k k':Nat} {x:Value} {hh:Bf} {fz:Nat->Prop} {lab lab':Lab} {I I':Nm} {H0 H':Hp},I' k'=I k->Ap hh fz lab I H0 (e k) x->Ap hh fz lab' I' H' (e k') x) (h3:∀b,∀r∈(m b).2,∀c∈r,c.names=[]) (h6:∀b,zT (m b).1=none) (h4:∀i,(e i).names=[i])
  (h5:∀{H H':Hp} {v:SV} {b:A} {k:Nat},dd H v=some (b,k)->H' k=H k->dd H' v=some (b,k)) (r:ArgM B):ArgM (A×B) where
 d|_,[]=>none
  |H,v::l=>PJ (dd H v) (r.d H l)
 args i p:=e i::r.args (i+1) p.2
 mem p:=m p.1::r.mem p.2
 h H l a ks h:=by
  split at h
  .cases h
  .rename_i v l
   unfold PJ at h
   split at h
   .rename_i x k y g hx hy
    simp only[jS,jP]at h
    obtain⟨rfl,rfl⟩:=h
    obtain⟨g1,g2,g3⟩:=r.h H l y g hy
    obtain⟨_,u,z,e1,e2⟩:=h1 hx
    refine⟨λi=>by simp[g1],by simp[g2],λi k' hk=>?_⟩
    cases i with
    |zero=>grind
    |succ i=>grind
   .cases h
 ha H l a ks i0 j v v' x hh fz lab lab' I I' H0 H' h g1 g2 g3 g4:=by
  split at h
  .cases h
  .rename_i u l
   unfold PJ at h
   split at h
   .rename_i x0 k y g hx hy
    simp only[jS,jP]at h
    obtain⟨rfl,rfl⟩:=h
    cases j with
    |zero=>
     simp only[getElem?_cons_zero,jS]at g1 g2
     subst g1;subst g2
     rw[(h1 hx).1]at g4
     exact h2 (by have:=g3 0 k rfl;simpa using this) g4
    |succ j=>
     refine r.ha H l y g (i0+1) j v v' x hy (by simpa using g1) (by simpa using g2) (λi k' hk=>?_) g4
     have:=g3 (i+1) k' (by simpa using hk)
     rw[<- this];congr 1;omega
   .cases h
 n a m' hm:=by
  rcases mem_cons.1 hm with e|e
  .grind
  .exact r.n a.2 m' e
 tz a m' hm:=by
  rcases mem_cons.1 hm with e|e
  .simp_all
  .exact r.tz a.2 m' e
 an i a v hv k hk:=by
  rcases mem_cons.1 hv with e|e
  .simp_all
  .have:=r.an (i+1) a.2 v e k hk
   simp only[length_cons];omega
 l H H' v a ks h hf:=by
  split at h
  .cases h
  .unfold PJ at h
   split at h
   .rename_i x k y g hx hy
    simp only[jS,jP]at h
    obtain⟨rfl,rfl⟩:=h
    simp only[h5 hx (hf k (mem_cons_self ..)),r.l _ _ _ _ _ hy (λq hq=>hf q (mem_cons_of_mem _ hq)),PJ]
   .cases h
theorem pg{k' i:Nat}{x:Value}{hh:Bf}{fz:Nat->Prop}{lab:Lab}{I:Nm}{H0 H':Hp}(h:I' k'=I k)(r:Ap hh fz lab I H0 (.one (.p k i j)) x):Ap hh fz' lab' I' H' (.one (.p k' i j)) x:=by
 have:=r.2
 cases this
 rw[<- h];exact⟨rfl,.p _ _ _ _⟩
theorem ph{k':Nat}{x:Value}{hh:Bf}{fz:Nat->Prop}{lab:Lab}{I:Nm}{H0 H':Hp}(h:I' k'=I k)(r:Ap hh fz lab I H0 (.one (.s k)) x):Ap hh fz' lab' I' H' (.one (.s k')) x:=by
 have:=r.2
 cases this
 rw[<- h];exact⟨rfl,.s _ _⟩
def amP{A B:Type}(c:RowM A)(r:ArgM B):ArgM (A×B):=
 amX (Y3 c) (λi=>.one (.p i 0 0)) (λb=>(c.z,[c.e b])) (λh=>eY h) (λh r=>pg h r) (λb r hr=>by simp only[mem_singleton]at hr;subst hr;exact c.n b) (λ_=>c.t) (λ_=>rfl)
  (λ{H H' v b k} h hf=>by
   obtain⟨rfl,u,z,h1,h2⟩:=eY h
   unfold Y3 at h ⊢
   simp only[hf,h1,h2,if_true]at h ⊢
   exact h) r
def amS{A B:Type}(c:RowM A)(r:ArgM B):ArgM (List A×B):=
 amX (Y4 c) (λi=>.one (.s i)) (λb=>(c.z,b.map c.e)) (λh=>eZ h) (λh r=>ph h r) (λb r hr=>by obtain⟨x,_,rfl⟩:=mem_map.1 hr;exact c.n x) (λ_=>c.t) (λ_=>rfl)
  (λ{H H' v b k} h hf=>by
   obtain⟨rfl,u,z,h1,h2⟩:=eZ h
   unfold Y4 at h ⊢
   simp only[hf,h1,h2,if_true]at h ⊢
   exact h) r
theorem A5H(H:Hp):am0.d H []=some ((),[]):=rfl
theorem A5I{A:Type}(c:Cod A)(r:ArgM B)(H:Hp)(v:SV)(l:List SV):(amD c r).d H (v::l)=Rg [] (c.d v) (r.d H l):=rfl
theorem A5J{A:Type}(c:RowM A)(r:ArgM B)(H:Hp)(v:SV)(l:List SV):(amP c r).d H (v::l)=PJ (Y3 c H v) (r.d H l):=rfl
theorem A5K{A:Type}(c:RowM A)(r:ArgM B)(H:Hp)(v:SV)(l:List SV):(amS c r).d H (v::l)=PJ (Y4 c H v) (r.d H l):=rfl
theorem A5L(i:Nat)(u:Unit):am0.args i u=[]:=rfl
theorem A5M{A:Type}(c:Cod A)(r:ArgM B)(i:Nat)(x:A)(y:B):(amD c r).args i (x,y)=c.e x::r.args i y:=rfl
theorem A5N{A:Type}(c:RowM A)(r:ArgM B)(i:Nat)(x:A)(y:B):(amP c r).args i (x,y)= .one (.p i 0 0)::r.args (i+1) y:=rfl
theorem A5O{A:Type}(c:RowM A)(r:ArgM B)(i:Nat)(x:List A)(y:B):(amS c r).args i (x,y)= .one (.s i)::r.args (i+1) y:=rfl
theorem A5P(u:Unit):am0.mem u=[]:=rfl
theorem A5Q{A:Type}(c:Cod A)(r:ArgM B)(x:A)(y:B):(amD c r).mem (x,y)=r.mem y:=rfl
theorem A5R{A:Type}(c:RowM A)(r:ArgM B)(x:A)(y:B):(amP c r).mem (x,y)=(c.z,[c.e x])::r.mem y:=rfl
theorem A5S{A:Type}(c:RowM A)(r:ArgM B)(x:List A)(y:B):(amS c r).mem (x,y)=(c.z,x.map c.e)::r.mem y:=rfl
open Go.RowKit
def pos:List Nat->Nat->Option Nat
 |[],_=>none
 |k::r,n=>if n=k then some 0 else (pos r n).map (·+1)
def ndB:List Nat->Bool
 |[]=>true
 |k::r=>!(r.contains k)&&ndB r
theorem FG:∀{ks:List Nat} {n i:Nat},pos ks n=some i->ks[i]?=some n
 |[],n,i,h=>by cases h
 |k::r,n,i,h=>by
  simp only[pos]at h
  split at h
  .grind
  simp only[map_eq_some_iff]at h
  obtain⟨j,h,rfl⟩:=h
  simpa using FG h
theorem Od:∀{ks:List Nat} {n i:Nat},ndB ks=true->ks[i]?=some n->pos ks n=some i
 |[],n,i,_,h=>by simp at h
 |k::r,n,i,hd,h=>by
  simp only[ndB,and_eq_true,not_eq_true',List.contains_eq_mem,decide_eq_false_iff_not]at hd
  cases i with
  |zero=>simp only[getElem?_cons_zero,jS]at h;subst h;simp[pos]
  |succ i=>
  simp only[getElem?_cons_succ]at h
  have:n≠k:=by rintro rfl;exact hd.1 (mem_of_getElem? h)
  simp[pos,this,Od hd.2 h]
def nmM(ks:List Nat)(t i:Nat):Nat:=(ks[i]?).getD t
def GF(f:Nat->Nat):C->C
 | .s n=>.s (f n)
 | .p n i j=>.p (f n) i j
 | .v x=>.v x
 | .d x=>.d x
 | .df z es=>.df z es
 | .dp cs=>.dp cs
 |_=>.any
def Pi(f:Nat->Nat):SV->SV
 | .one c=>.one (GF f c)
 | .agg l=>.agg (l.map (GF f))
 | .tup l=>.tup (l.map fun| .inl c=>.inl (GF f c)| .inr l=>.inr (l.map (GF f)))
def Rh:Option Ch->Option MV->Ch
 |some (.vec u _ _),some m=>.vec (u+1) m.1 m.2
 |_,some m=>.vec 0 m.1 m.2
 |_,none=>.dead
def updM(H:Hp)(t:Nat):List Nat->List (Option MV)->List (Nat×Ch)
 |k::ks,o::r=>(k,Rh (H k) o)::updM H t ks r
 |[],some m::_=>[(t,.vec 0 m.1 m.2)]
 |_,_=>[]
def Ri:Nat->List (Option MV)->Bool
 |0,[]=>true
 |0,[some _]=>true
 |n+1,_::r=>Ri n r
 |_,_=>false
theorem Oe(H:Hp)(t:Nat):∀(ks:List Nat) (m:List (Option MV)) (H1:Hp) (n:Nat),ndB ks=true->t∉ks->Ri ks.length m=true->
  updH H1 (updM H t ks m) n=(match pos ks n with
   |some i=>some (Rh (H n) ((m[i]?).getD none))
   |none=>if n=t then (match m[ks.length]? with|some (some q)=>some (.vec 0 q.1 q.2)|_=>H1 n) else H1 n)
 |[],m,H1,n,_,_,hl=>by
  match m,hl with
  |[],_=>simp[updM,updH,pos]
  |[some q],_=>
   simp only[updM,updH,pos,upd,length_nil,getElem?_cons_zero]
 |k::r,m,H1,n,hd,ht,hl=>by
  match m,hl with
  |o::m,hl=>
   have hd':=hd
   simp only[ndB,and_eq_true,not_eq_true',List.contains_eq_mem,decide_eq_false_iff_not]at hd
   simp only[mem_cons,not_or]at ht
   simp only[updM,updH]
   rw[Oe H t r m (upd H1 k (Rh (H k) o)) n hd.2 ht.2 hl]
   simp only[pos]
   by_cases e:n=k
   .subst e
    have:pos r n=none:=by
     cases hp:pos r n with
     |none=>rfl
     |some i=>exact absurd (mem_of_getElem? (FG hp)) hd.1
    rw[this,if_pos rfl]
    simp only[if_neg (Ne.symm ht.1),upd,if_true,getElem?_cons_zero,getD_some]
   rw[if_neg e]
   cases hp:pos r n with
   |none=>
    simp only[Option.map_none,upd,e,if_false,length_cons,getElem?_cons_succ]
   |some i=>simp_all
theorem VB:∀{n:Nat} {m:List (Option MV)},Ri n m=true->n<=m.length/\m.length<=n+1/\(∀o,m[n]?=some o->∃q,o=some q)
 |0,[],_=>⟨by simp,by simp,by simp⟩
 |0,[some q],_=>⟨by simp,by simp,λo ho=>⟨q,by simpa using ho.symm⟩⟩
 |n+1,_::r,h=>by
  obtain⟨h1,h2,h3⟩:=VB (n:=n) (m:=r) h
  exact⟨by simp;omega,by simp;omega,λo ho=>h3 o (by simpa using ho)⟩
def spM{A:Type}(o:Option (A×List Nat))(t:Nat)(H:Hp)(Cd:A->Prop)(res:A->SV)(mem':A->List (Option MV)):Res:=
 match o with
 |some (a,ks)=>some (Cd a/\ndB ks=true,⟨Pi (nmM ks t) (res a),updM H t ks (mem' a)⟩,t::ks)
 |none=>none
theorem pi{A:Type}(a:A)(ks:List Nat)(t:Nat)(H:Hp)(Cd:A->Prop)(res:A->SV)(mem':A->List (Option MV)):spM (some (a,ks)) t H Cd res mem'=some (Cd a/\ndB ks=true,⟨Pi (nmM ks t) (res a),updM H t ks (mem' a)⟩,t::ks):=rfl
def J8(n:Nat):C->Bool
 | .s k=>decide (k<n)
 | .p k _ _=>decide (k<n)
 | .v _=>true
 | .d _=>true
 | .df _ _=>true
 | .dp _=>true
 |_=>false
def Rj(n:Nat):SV->Bool
 | .one c=>J8 n c
 | .agg l=>l.all (J8 n)
 | .tup l=>l.all fun| .inl c=>J8 n c| .inr l=>l.all (J8 n)
theorem Rk{f:Nat->Nat}{c:C}{n:Nat}(h:J8 n c=true)(hk:k∈(GF f c).names):∃i,i<n/\k=f i:=by
 cases c<;>simp only[J8,GF,C.names,mem_singleton,not_mem_nil,decide_eq_true_eq,jB]at h hk<;>exact⟨_,h,hk⟩
theorem La{f:Nat->Nat}{n:Nat}(h:Rj n v=true)(hk:k∈(Pi f v).names):∃i,i<n/\k=f i:=by
 have key:∀{l:List C},l.all (J8 n)=true->k∈(l.map (GF f)).flatMap C.names->∃i,i<n/\k=f i:=by
  intro l hl hk
  obtain⟨c,hc,hk⟩:=mem_flatMap.1 hk
  obtain⟨c0,hc0,rfl⟩:=mem_map.1 hc
  exact Rk (all_eq_true.1 hl c0 hc0) hk
 cases v with
 |one c=>exact Rk h hk
 |agg l=>exact key h hk
 |tup l=>
 obtain⟨p,hp',hk⟩:=mem_flatMap.1 hk
 obtain⟨q,hq,rfl⟩:=mem_map.1 hp'
 have hq2:=all_eq_true.1 h q hq
 cases q with
 |inl c=>exact Rk hq2 hk
 |inr l=>exact key hq2 hk
theorem WN{h:Bf}{fz:Nat->Prop}{lab:Lab}{I:Nm}{H H':Hp}{f:Nat->Nat}{n:Nat}{x:Value}(hz:∀b,fz b->fz' b)(hI:∀i,i<n->I' (f i)=I i)(ho:Rj n v=true)(r:Ap h fz lab I H v x):Ap h fz' lab' I' H' (Pi f v) x:=by
 have scn:∀{c x},J8 n c=true->SC h fz lab I H c x->SC h fz' lab' I' H' (GF f c) x:=by
  intro c x hn r
  cases c<;>simp only[J8,decide_eq_true_eq,jB]at hn
  case v=>have:=r.2;cases this with|v _ _ h1=>exact⟨rfl,.v _ _ h1⟩
  case p k i j=>exact pg (H0:=H) (H':=H') (hI k hn) r
  case s k=>exact ph (H0:=H) (H':=H') (hI k hn) r
  case d=>have:=r.2;cases this with|d _ _ _ r2=>exact⟨rfl,.d _ _ _ (Ff (λb hb=>⟨hz b hb,rfl⟩) r2)⟩
  case df=>have:=r.2;cases this with|df _ _ _ a r2=>exact⟨rfl,.df _ _ _ a (Ff (λb hb=>⟨hz b hb,rfl⟩) r2)⟩
  case dp=>have:=r.2;cases this with|dp _ _ _ r2=>exact⟨rfl,.dp _ _ _ (Ff (λb hb=>⟨hz b hb,rfl⟩) r2)⟩
 have csn:∀{l arr},l.all (J8 n)=true->ER h fz lab I H l arr->ER h fz' lab' I' H' (l.map (GF f)) arr:=by
  intro l arr hn r
  refine⟨by simpa using r.1,λj c hj=>?_⟩
  simp only[getElem?_map,map_eq_some_iff]at hj
  obtain⟨c0,hj,rfl⟩:=hj
  obtain⟨y,y1,y2⟩:=r.2 j c0 hj
  exact⟨y,y1,scn (all_eq_true.1 hn c0 (mem_of_getElem? hj)) y2⟩
 cases v with
 |one c=>exact scn ho r
 |agg l=>obtain⟨arr,e1,e2⟩:=r;exact⟨arr,e1,csn ho e2⟩
 |tup l=>
 obtain⟨arr,e1,e2,e3⟩:=r
 refine⟨arr,e1,by simpa using e2,λj p hj=>?_⟩
 simp only[getElem?_map,map_eq_some_iff]at hj
 obtain⟨q,hj,rfl⟩:=hj
 obtain⟨y,y1,y2⟩:=e3 j q hj
 have hq:=all_eq_true.1 ho q (mem_of_getElem? hj)
 refine⟨y,y1,?_⟩
 cases q with
 |inl c=>exact scn hq y2
 |inr l=>obtain⟨arr,e1,e2⟩:=y2;exact⟨arr,e1,csn hq e2⟩
theorem bj{h h':Bf}{fz:Nat->Prop}{lab:Lab}{I:Nm}(hz:∀b,fz b->fz' b/\h' b=h b){π π':List Nat}{z:List C}{es:List (List C)}{x:Value}(r:EY h fz lab I π z es x)
  (hl:∀b ρ,lab b=some (π++ρ)->lab' b=some (π'++ρ)/\h' b=h b) (hn:∀r∈es,∀c∈r,c.names=[]):EY h' fz' lab' I' π' z es x:=
 IZ hz r hl λi j cs c h1 h2 k hk=>by rw[hn cs (mem_of_getElem? h1) c (mem_of_getElem? h2)]at hk;cases hk
section
variable {P:Program}
theorem rY{X:Ctx}{w0:World}{A:Type}(am:ArgM A){w:World}{I:Nm}{lab:Lab}{fz:Nat->Prop}{H:Hp}{t:Nat}{args:List SV}{xs:List Value}(hA:AtW X w0 I lab fz H w)(ht:H t=none){a:A}{ks:List Nat}(ha:am.d H args=some (a,ks))(hnd:ndB ks=true)
  (hd:∀v∈args,Dom H v.names) (hlx:args.length=xs.length) (hx:∀(j:Nat) (v:SV) (x:Value),args[j]?=some v->xs[j]?=some x->Ap (hp w) fz lab I H v x) {ma:List (Option MV)} (hla:Ri (am.mem a).length ma=true) (hna:∀q,some q∈ma->∀r∈q.2,∀c∈r,c.names=[]) :
  ∃(Mc:Nat->Prop) (Ic:Nm) (labc:Lab),AtW (mX Mc fz Ic (am.mem a).length) w Ic labc fz (lkp (GE 0 (am.mem a))) w/\xs.length=(am.args 0 a).length/\
   (∀(j:Nat) (v:SV) (x:Value),(am.args 0 a)[j]?=some v->xs[j]?=some x->Ap (hp w) fz labc Ic (lkp (GE 0 (am.mem a))) v x)/\
   ∀r,Rj ma.length r=true->∀en w',LZ w Mc fz Ic (am.mem a).length ma r en w'->∃x,en= .returned x/\I6 X w0 w I lab fz H (some (Pi (nmM ks t) r)) (updM H t ks ma) x w':=by
 obtain⟨g1,g2,g3⟩:=am.h H args a ks ha
 have hlm:=hla
 rw[<- g2]at hlm
 obtain⟨l1,l2,l3⟩:=VB hlm
 have htk:t∉ks:=by
  intro hm
  obtain⟨i,hi⟩:=mem_iff_getElem?.1 hm
  obtain⟨u,z,m,e1,_⟩:=g3 i t hi
  rw[ht]at e1;cases e1
 let labc:Lab:=λb=>match lab b with
  |some (n::ρ)=>match pos ks n with|some i=>some (i::ρ)|none=>none
  |_=>none
 let Mc:Nat->Prop:=λb=>(labc b).isSome=true
 let Ic:Nm:=λi=>I ((ks[i]?).getD 0)
 have hlc:∀(i k:Nat),ks[i]?=some k->∀b ρ,lab b=some ([k]++ρ)->labc b=some ([i]++ρ):=by
  intro i k hk b ρ hb
  have hp':=Od hnd hk
  simp only[labc,hb,List.cons_append,List.nil_append,hp']
 have hlcs:∀b π,labc b=some π->∃(k i:Nat) (ρ:List Nat),ks[i]?=some k/\lab b=some (k::ρ)/\π=i::ρ:=by
  exact r9
 have hMc:∀b,Mc b->∃(k i:Nat) (ρ:List Nat),ks[i]?=some k/\lab b=some (k::ρ):=by grind
 have hMn:∀b,fz b->¬Mc b:=by
  intro b hb hm
  obtain⟨k,i,ρ,_,e2⟩:=hMc b hm
  rw[(hA.fzl b hb).2]at e2;cases e2
 have hAc:AtW (mX Mc fz Ic (am.mem a).length) w Ic labc fz (lkp (GE 0 (am.mem a))) w:=by
  refine⟨λi ch hi=>?_,λi ch hi=>?_,λb π hb=>?_,λb hb=>⟨(hA.fzl b hb).1,?_⟩,λb hb=>.inl hb,Kept.refl _ _,λp hp'=>?_⟩
  .rw[GE,Hh]at hi
   simp only[getElem?_map,map_eq_some_iff]at hi
   obtain⟨o,⟨m,hm,rfl⟩,rfl⟩:=hi
   obtain⟨k,hk⟩:∃k,ks[i]?=some k:=⟨_,getElem?_eq_getElem (by rw[g2];exact(List.getElem?_eq_some_iff.1 hm).1)⟩
   obtain⟨u,z,m',e1,e2,e3⟩:=g3 i k hk
   rw[hm]at e2;simp only[jS]at e2;subst e2
   obtain⟨q1,q2,q3⟩:=hA.h k _ e1
   have hIc:Ic i=I k:=by simp only[Ic,hk,getD_some]
   refine⟨by rw[hIc];exact q1,by rw[hIc,q2,e3],?_⟩
   rw[hIc]
   have hv:=bj (I':=Ic) (λb hb=>⟨hb,rfl⟩) q3 (λb ρ hb=>⟨hlc i k hk b ρ hb,rfl⟩) (am.n a m (mem_of_getElem? hm))
   rcases hv with h3|⟨b,off,cap,arr,T,h3,h4,h5,h6,h7,h8⟩
   .exact .inl h3
   .rw[e3]at h6 h8
    exact .inr ⟨b,off,cap,arr,T,h3,h4,h5,⟨h6.1,IY (am.tz a m (mem_of_getElem? hm))⟩,h7,h8⟩
  .rw[GE,Hh]at hi
   simp only[getElem?_map,map_eq_some_iff]at hi
   obtain⟨o,⟨m,hm,rfl⟩,rfl⟩:=hi
   intro n hn'
   obtain⟨r,hr,hn'⟩:=mem_flatMap.1 hn'
   obtain⟨c,hc,hn'⟩:=mem_flatMap.1 hn'
   rw[am.n a m (mem_of_getElem? hm) r hr c hc]at hn';cases hn'
  .exact AAz
  .grind
  .obtain⟨q1,q2,q3⟩:=Ih hp'
   refine⟨?_,q3.symm⟩
   rw[GE,Hh]
   have:p.1<(am.mem a).length:=by omega
   simp[this]
 refine⟨Mc,Ic,labc,hAc,by rw[g1 0,<- hlx],?_,?_⟩
 .intro j v' x hj hxj
  have hjl:j<args.length:=by rw[hlx];exact(List.getElem?_eq_some_iff.1 hxj).1
  refine am.ha H args a ks 0 j _ v' x ha (getElem?_eq_getElem hjl) hj (λi k hk=>?_) (hx j _ x (getElem?_eq_getElem hjl) hxj)
  simp only[Ic,Nat.zero_add,hk,getD_some]
 .rintro r hor en w' ⟨x,Ic',labc',fz',rfl,hB,hv⟩
  refine⟨x,rfl,?_⟩
  let nm:Nat->Nat:=nmM ks t
  let lab':Lab:=λb=>match labc' b with
   |some (i::ρ)=>some (nm i::ρ)
   |some []=>some []
   |none=>if (labc b).isSome=true then none else lab b
  let I':Nm:=λn=>if n=t then Ic' ks.length else I n
  let fz2:Nat->Prop:=λb=>fz b∨fz' b
  have hIfix:∀i,i<ks.length->Ic' i=Ic i:=by
   intro i hi
   have:=(hB.fix (i,Ic i) (VA (by omega) (by omega))).2
   exact this
  have hInm:∀i,i<ma.length->I' (nm i)=Ic' i:=by
   intro i hi
   by_cases h1:i<ks.length
   .obtain⟨k,hk⟩:∃k,ks[i]?=some k:=⟨_,getElem?_eq_getElem h1⟩
    have e1:nm i=k:=by simp only[nm,nmM,hk,getD_some]
    have e2:k≠t:=by rintro rfl;exact htk (mem_of_getElem? hk)
    rw[e1,hIfix i h1]
    simp only[I',e2,if_false,Ic,hk,getD_some]
   .have e0:i=ks.length:=by omega
    have e1:nm i=t:=by simp only[nm,nmM,List.getElem?_eq_none (Nat.le_of_not_lt h1),getD_none]
    rw[e1,e0];simp[I']
  have hkB:∀b,b<w.heap.size->¬Mc b->hp w' b=hp w b:=λb h1 h2=>hB.kept.block b h1 h2
  have hfzk:∀b,fz b->hp w' b=hp w b:=λb hb=>hkB b (hA.fzl b hb).1 (hMn b hb)
  have hkn:∀n,pos ks n=none->∀b ρ,lab b=some ([n]++ρ)->labc b=none:=by grind
  have hlabc':∀b π,labc' b=some π->w.heap.size<=b∨Mc b:=λb π hb=>(hB.own b π hb).2
  have hnl:∀b,w.heap.size<=b->lab b=none:=by
   intro b hb
   cases h:lab b with
   |none=>rfl
   |some π=>have:=(hA.own b π h).1;omega
  have hlk:∀i b ρ,labc' b=some ([i]++ρ)->lab' b=some ([nm i]++ρ):=by grind
  have hoth:∀n,pos ks n=none->∀b ρ,lab b=some ([n]++ρ)->lab' b=some ([n]++ρ)/\hp w' b=hp w b:=by
   intro n hp' b ρ hb
   have h1:=hkn n hp' b ρ hb
   have h2:¬Mc b:=by simp only[Mc,h1];simp
   have h3:=(hA.own b _ hb).1
   refine⟨?_,hkB b h3 h2⟩
   have h4:labc' b=none:=by
    cases h:labc' b with
    |none=>rfl
    |some π=>
     rcases hlabc' b π h with h|h
     .omega
     .grind
   simp only[lab',h4,h1,Option.isSome_none,jB,if_false];exact hb
  have hget:=Oe H t ks ma H
  have hmem:∀i o,ma[i]?=some o->lkp (memO 0 ma) i=some (chO o):=by intro i o hi;rw[Hh,hi];rfl
  have hvec:∀i q,ma[i]?=some (some q)->(I' (nm i)).mp=false/\(I' (nm i)).s=q.1.length/\EY (hp w') fz2 lab' I' [nm i] q.1 q.2 (I' (nm i)).v:=by
   intro i q hi
   obtain⟨q1,q2,q3⟩:=hB.h i _ (hmem i _ hi)
   have hlt:=(List.getElem?_eq_some_iff.1 hi).1
   rw[hInm i hlt]
   exact⟨q1,q2,bj (λb hb=>⟨.inr hb,rfl⟩) q3 (λb ρ hb=>⟨hlk i b ρ hb,rfl⟩) (hna q (mem_of_getElem? hi))⟩
  have hdomI:∀n,(H n).isSome=true->I' n=I n:=by
   intro n hn'
   have:n≠t:=by rintro rfl;rw[ht]at hn';cases hn'
   simp[I',this]
  have hsomeH:∀n,(H n).isSome=true->(updH H (updM H t ks ma) n).isSome=true:=by
   intro n hn'
   exact GT (l:=[n]) _ (by intro q hq;simp at hq;subst hq;exact hn') n (by simp)
  have hclosed:∀q u,some q∈ma->chNames (.vec u q.1 q.2)=[]:=by
   intro q u hq
   apply List.eq_nil_iff_forall_not_mem.2
   intro n hn'
   obtain⟨r,hr,hn'⟩:=mem_flatMap.1 hn'
   obtain⟨c,hc,hn'⟩:=mem_flatMap.1 hn'
   rw[hna q hq r hr c hc]at hn';cases hn'
  have hbump:∀o0 (o:Option MV),o∈ma->chNames (Rh o0 o)=[]:=by
   intro o0 o ho'
   cases o with
   |none=>cases o0 with
    |none=>rfl
    |some c=>cases c<;>rfl
   |some q=>
    cases o0 with
    |none=>exact hclosed q 0 ho'
    |some c=>cases c<;>exact hclosed q _ ho'
  have hbumpAt:∀n o0 (o:Option MV) i,ma[i]?=some o->nm i=n->Mw (hp w') fz2 lab' I' n (Rh o0 o):=by
   intro n o0 o i hi hni
   cases o with
   |none=>cases o0 with
    |none=>trivial
    |some c=>cases c<;>trivial
   |some q=>
    have:=hvec i q hi
    rw[hni]at this
    cases o0 with
    |none=>exact this
    |some c=>cases c<;>exact this
  refine⟨I',lab',fz2,⟨λn ch h=>?_,λn ch h=>?_,λb π hb=>?_,λb hb=>?_,λb hb=>?_,Kept.trans hA.kept hB.kept ?_,λp hp'=>?_⟩,?_,⟨λb hb=>⟨.inl hb,hfzk b hb⟩,hdomI,?_⟩⟩
  .rw[hget n hnd htk hlm]at h
   split at h
   .rename_i i hp'
    simp only[jS]at h
    subst h
    have hk:=FG hp'
    have hlt:=(List.getElem?_eq_some_iff.1 hk).1
    obtain⟨o,ho'⟩:∃o,ma[i]?=some o:=⟨_,getElem?_eq_getElem (by omega)⟩
    rw[ho',getD_some]
    exact hbumpAt n _ o i ho' (by simp only[nm,nmM,hk,getD_some])
   .rename_i hp'
    have old:H n=some ch->Mw (hp w') fz2 lab' I' n ch:=λh=>
     Lw hA h (λb hb=>⟨.inl hb,hfzk b hb⟩) hdomI (hoth n hp')
    split at h
    .rename_i e
     split at h
     .rename_i q hq
      simp only[jS]at h
      subst h
      have:=hvec ks.length q hq
      have e1:nm ks.length=t:=by simp[nm,nmM]
      rw[e1,<- e]at this
      exact this
     .exact old h
    .exact old h
  .rw[hget n hnd htk hlm]at h
   split at h
   .rename_i i hp'
    simp only[jS]at h
    subst h
    have hk:=FG hp'
    have hlt:=(List.getElem?_eq_some_iff.1 hk).1
    obtain⟨o,ho'⟩:∃o,ma[i]?=some o:=⟨_,getElem?_eq_getElem (by omega)⟩
    rw[ho',getD_some,hbump _ o (mem_of_getElem? ho')]
    intro k hk;cases hk
   .split at h
    .split at h
     .rename_i q hq
      simp only[jS]at h
      subst h
      rw[hclosed q 0 (mem_of_getElem? hq)]
      intro k hk;cases hk
     .exact λk hk=>hsomeH k (hA.wf n ch h k hk)
    .exact λk hk=>hsomeH k (hA.wf n ch h k hk)
  .exact SX
  .exact RJ
  .exact oQ
  .exact AA7
  .obtain⟨q1,q2⟩:=hA.fix p hp'
   exact⟨hsomeH p.1 q1,by rw[hdomI p.1 q1];exact q2⟩
  .intro s hs
   simp only[jS]at hs
   subst hs
   exact WN (n:=ma.length) (λb hb=>.inr hb) hInm hor hv
  .intro n u p y hn' hv'
   obtain⟨ch,hch⟩:=Option.isSome_iff_exists.1 hn'
   cases hp':pos ks n with
   |none=>
    have hnt:n≠t:=by rintro rfl;rw[ht]at hch;cases hch
    have hsame:updH H (updM H t ks ma) n=H n:=by rw[hget n hnd htk hlm,hp'];simp[hnt]
    exact AAT
   |some i=>
    have hk:=FG hp'
    obtain⟨u0,z,m,e1,_⟩:=g3 i n hk
    have hnew:updH H (updM H t ks ma) n=some (Rh (H n) ((ma[i]?).getD none)):=by rw[hget n hnd htk hlm,hp']
    cases hq:(ma[i]?).getD none with
    |none=>
     rw[hq,e1]at hnew
     exact Jz hnew hv'
    |some q=>
     rw[hq,e1]at hnew
     exact L1 hA e1 hnew (by omega) hv'
def D0{X:Ctx}{w0:World}(f:FuncId)(call:∀(args:Array Value) (w:World),(callFunc f args).run P w= .ok (.enter f args) w){A:Type}(am:ArgM A)(Cd:A->Prop)(res:A->SV)(mem':A->List (Option MV))
  (hl:∀a,Cd a->Ri (am.mem a).length (mem' a)=true) (ho:∀a,Cd a->Rj (mem' a).length (res a)=true) (hn:∀a,Cd a->∀q,some q∈mem' a->∀r∈q.2,∀c∈r,c.names=[]) (ok:C7 P f (am.args 0) am.mem Cd res mem'):Spec P X w0 where
 f:=f
 call:=call
 fn t args H:=spM (am.d H args) t H Cd res mem'
 ok w I lab fz H t args xs c e fp hA ht h hc hd hlx hx:=by
  refine PD ?_
  unfold spM at h
  split at h
  .rename_i a ks ha
   simp only[jS,jP]at h
   obtain⟨rfl,rfl,rfl⟩:=h
   obtain⟨hCd,hnd⟩:=hc
   have hlm:=hl a hCd
   obtain⟨Mc,Ic,labc,hAc,hlen,hargs,key⟩:=rY am hA ht ha hnd hd hlx hx hlm (hn a hCd)
   exact(ok a w Mc Ic labc fz xs hCd hAc hlen hargs).mono (key _ (ho a hCd))
  .cases h
 dom t args H c e fp ht hc h hd:=by
  unfold spM at h
  split at h
  .rename_i a ks ha
   simp only[jS,jP]at h
   obtain⟨rfl,rfl,rfl⟩:=h
   obtain⟨hCd,hnd⟩:=hc
   obtain⟨g1,g2,g3⟩:=am.h H args a ks ha
   have hlm:=hl a hCd
   rw[<- g2]at hlm
   obtain⟨l1,l2,l3⟩:=VB hlm
   have htk:t∉ks:=by
    intro hm
    obtain⟨i,hi⟩:=mem_iff_getElem?.1 hm
    obtain⟨u,z,m,e1,_⟩:=g3 i t hi
    rw[ht]at e1;cases e1
   refine⟨λk hk=>?_,λp hp'=>?_⟩
   .obtain⟨i,hi,rfl⟩:=La (ho a hCd) hk
    show (updH H (updM H t ks (mem' a)) (nmM ks t i)).isSome=true
    rw[Oe H t ks (mem' a) H _ hnd htk hlm]
    by_cases h1:i<ks.length
    .have hk:ks[i]?=some ks[i]:=getElem?_eq_getElem h1
     have e1:nmM ks t i=ks[i]:=by simp only[nmM,hk,getD_some]
     rw[e1,Od hnd hk];rfl
    .have e0:i=ks.length:=by omega
     have e1:nmM ks t i=t:=by simp only[nmM,List.getElem?_eq_none (Nat.le_of_not_lt h1),getD_none]
     have hp':pos ks t=none:=by
      cases hp':pos ks t with
      |none=>rfl
      |some j=>exact absurd (mem_of_getElem? (FG hp')) htk
     rw[e1,hp']
     simp only[if_true]
     obtain⟨q,hq⟩:=l3 _ (getElem?_eq_getElem (by omega))
     rw[getElem?_eq_getElem (by omega),hq];rfl
   .have key:∀(ks:List Nat) (m:List (Option MV)),p∈updM H t ks m->p.1∈t::ks:=by
     intro ks
     induction ks with
     |nil=>
      intro m h
      match m,h with
      |some q::r,h=>simp only[updM,mem_singleton]at h;subst h;simp
     |cons k r ih=>
      intro m h
      match m,h with
      |o::m,h=>
       simp only[updM]at h
       rcases mem_cons.1 h with rfl|h
       .simp
       .grind
    exact key ks _ hp'
  .cases h
 loc t args H H' c e fp h hf:=by
  unfold spM at h ⊢
  split at h
  .rename_i a ks ha
   simp only[jS,jP]at h
   obtain⟨rfl,rfl,rfl⟩:=h
   have:=am.l H H' args a ks ha (λk hk=>hf k (mem_cons_of_mem _ hk))
   rw[this]
   have key:∀(ks:List Nat) (m:List (Option MV)),(∀k∈ks,H' k=H k)->updM H' t ks m=updM H t ks m:=by
    intro ks
    induction ks with
    |nil=>intro m _;match m with
     |[]=>rfl
     |some q::r=>rfl
     |none::r=>rfl
    |cons k r ih=>intro m hk;match m with
     |[]=>rfl
     |o::m=>simp only[updM,hk k (mem_cons_self ..),ih m λq hq=>hk q (mem_cons_of_mem _ hq)]
   simp only[key ks _ λk hk=>hf k (mem_cons_of_mem _ hk)]
  .cases h
theorem wC{X:Ctx}{w0:World}{A:Type}(f call)(am:ArgM A)(Cd res mem' hl ho hn ok):(D0 (P:=P) (X:=X) (w0:=w0) f call am Cd res mem' hl ho hn ok).f=f:=rfl
theorem pj{X:Ctx}{w0:World}{A:Type}(f call)(am:ArgM A)(Cd res mem' hl ho hn ok)(t:Nat)(args:List SV)(H:Hp):(D0 (P:=P) (X:=X) (w0:=w0) f call am Cd res mem' hl ho hn ok).fn t args H=spM (am.d H args) t H Cd res mem':=rfl
end
open Go.RowKit
def iB:SV->Option (List UInt8)
 | .one (.v (.string b))=>some b.toList
 |_=>none
def cStr:Cod (List UInt8) where
 d:=iB
 e l:=.one (.v (.string (bs l)))
 h s x y h r:=by
  unfold iB at h
  split at h
  .simp only[jS]at h;subst h;rw[PB];exact r
  .simp at h
 n x:=rfl
theorem A0z:cStr.d=iB:=rfl
theorem A10(l:List UInt8):cStr.e l= .one (.v (.string (bs l))):=rfl
def Dr(p:Int->Bool):List UInt8->Nat
 |[]=>0
 |b::r=>if p (b.toNat:Int)=true then Dr p r+1 else 0
theorem Of(p:Int->Bool):∀l:List UInt8,Dr p l<=l.length
 |[]=>Nat.le_refl _
 |b::r=>by
  have:=Of p r
  simp only[Dr,length_cons]
  split<;>omega
theorem Ss(p:Int->Bool){l:List UInt8}{i:Nat}(h:l.length<=i):Dr p (l.drop i)=0:=by
 rw[List.drop_eq_nil_of_le h];rfl
theorem Ji(p:Int->Bool){l:List UInt8}{i:Nat}(h:i<l.length):Dr p (l.drop i)=if p ((l.getD i 0).toNat:Int)=true then Dr p (l.drop (i+1))+1 else 0:=by
 rw[List.drop_eq_getElem_cons h]
 simp only[Dr,List.getD,getElem?_eq_getElem h,getD_some]
theorem Ah{i n:Nat}(h:i<n):decide ((i:Int)<(n:Int))=true:=by simp;omega
theorem Ai{i n:Nat}(h:n<=i):decide ((i:Int)<(n:Int))=false:=by simp;omega
theorem GU{i n:Nat}(h:i<n):((i:Int)<(n:Int))=True:=by simp;omega
theorem Kl{i n:Nat}(h:i<=n):((i:Int)<=(n:Int))=True:=by simp;omega
theorem FH{i n:Nat}(h:i<=n)(hn:n<=4294967296):IntKind.i64.wrap ((i:Int)+1)=((i+1:Nat):Int):=by rw[wrap_i64 (by omega) (by omega)];rfl
section
variable {A:Type}(f:A->List C)
theorem bk(h:∀a,∀c∈f a,c.names=[])(u:Nat)(z:List C)(l:List A):chNames (.vec u z (l.map f))=[]:=by
 apply List.eq_nil_iff_forall_not_mem.2
 intro n hn
 obtain⟨r,hr,hn1⟩:=mem_flatMap.1 hn
 obtain⟨c,hc,hn2⟩:=mem_flatMap.1 hn1
 obtain⟨a,_,rfl⟩:=mem_map.1 hr
 rw[h a c hc]at hn2;cases hn2
theorem A11(h:∀a,∀c∈f a,c.names=[])(l:List A):List.flatMap (λr=>List.flatMap C.names r) (l.map f)=[]:=bk f h 0 [] l
theorem Hi{g:A->List D}(h:∀a,GD (f a)=some (g a)):∀l:List A,EZ (l.map f)=some (l.map g)
 |[]=>rfl
 |a::l=>by simp only[map_cons,EZ,h a,Hi h l]
theorem HU(h:∀a,(f a).map σ=f a)(l:List A):(l.map f).map (λr=>r.map σ)=l.map f:=by simp_all
theorem Y5(h:∀a,∀c∈f a,C.stor c=true)(l:List A):BS (l.map f):=by
 intro r hr c hc
 obtain⟨a,_,rfl⟩:=mem_map.1 hr
 exact h a c hc
theorem pm(h:∀a,∀c∈f a,c.names=[])(l:List A):U3 (l.map f)=true:=by
 simp only[U3,all_eq_true]
 intro r hr c hc
 obtain⟨a,_,rfl⟩:=mem_map.1 hr
 simp[h a c hc]
end
theorem MI(h:Decidable True): @decide True h=true:=by cases h with|isTrue=>rfl|isFalse h=>exact absurd trivial h
theorem MJ(h:Decidable False): @decide False h=false:=by cases h with|isTrue h=>exact h.elim|isFalse=>rfl
theorem A5T:(([]:List UInt8)==[])=true:=rfl
theorem A5U(a:UInt8)(l:List UInt8):((a::l)==[])=false:=rfl
theorem A5V(a:UInt8)(l:List UInt8):(([]:List UInt8)==a::l)=false:=rfl
theorem A5W(a b:UInt8)(l m:List UInt8):((a::l)==b::m)=(decide (a.toNat=b.toNat)&&l==m):=by
 have:(a==b)=decide (a.toNat=b.toNat):=by rw[Bool.eq_iff_iff,beq_iff_eq,decide_eq_true_eq];exact⟨λh=>by rw[h],UInt8.toNat_inj.1⟩
 rw[<- this];rfl
open Go Go.RowKit
def A12(P:Program)(f:FuncId)(T:World->Prop){A:Type}(ac:ArgC A)(Cd:A->Prop)(F:A->SV):Prop:=
 ∀(a:A) (w:World) (fz:Nat->Prop) (xs:List Value),T w->Cd a->(∀b,fz b->b<w.heap.size)->xs.length=(ac.e a).length->(∀(j:Nat) (v:SV) (x:Value),(ac.e a)[j]?=some v->xs[j]?=some x->CD (hp w) fz v x)->
  Calls P f xs.toArray w (KS w fz (λv=>v=F a))
def iC(X:Ctx)(w0:World)(T:World->Prop):Prop:=∀w,Kept X.M w0 w->T w
section
variable {P:Program}
def rZ{X:Ctx}{w0:World}(f:FuncId)(call:∀(args:Array Value) (w:World),(callFunc f args).run P w= .ok (.enter f args) w)(T:World->Prop){A:Type}(ac:ArgC A)(Cd:A->Prop)(F:A->SV)(hF:∀a,(F a).names=[])(ok:A12 P f T ac Cd F)(hT:iC X w0 T):Spec P X w0 where
 f:=f
 call:=call
 fn _ args _:=Pf (ac.d args) Cd F
 ok w I lab fz H t args xs c e fp hA ht h hc hd hl hx:=by
  refine PD ?_
  unfold Pf at h
  split at h
  .rename_i a ha
   simp only[jS,jP]at h
   obtain⟨rfl,rfl,rfl⟩:=h
   obtain⟨g1,g2⟩:=ac.h _ _ ha
   refine(ok a w fz xs (hT w hA.kept) hc (λb hb=>(hA.fzl b hb).1) (by rw[g1,hl]) ?_).mono ?_
   .intro j v x hj hxj
    have hjl:j<args.length:=by rw[hl];exact(List.getElem?_eq_some_iff.1 hxj).1
    have:=hx j _ x (getElem?_eq_getElem hjl) hxj
    exact HT (λb hb=>⟨hb,rfl⟩) (ac.n a v (mem_of_getElem? hj)) (g2 j _ v x (getElem?_eq_getElem hjl) hj this)
   .rintro en w' ⟨v,x,fz',rfl,rfl,h1,h2,h3,h4,h5,h6⟩
    exact⟨x,rfl,Rc hA h2 h3 h4 h6 h1 h5⟩
  .cases h
 dom t args H c e fp _ _ h _:=by
  unfold Pf at h
  split at h
  .simp only[jS,jP]at h
   obtain⟨rfl,rfl,rfl⟩:=h
   exact⟨(by rw[hF];intro k hk;exact(not_mem_nil hk).elim),λp hp'=>(not_mem_nil hp').elim⟩
  .cases h
 loc t args H H' c e fp h _:=h
theorem wD{X:Ctx}{w0:World}{A:Type}(f call)(T:World->Prop)(ac:ArgC A)(Cd F hF ok)(hT:iC X w0 T):(rZ (P:=P) f call T ac Cd F hF ok hT).f=f:=rfl
theorem po{X:Ctx}{w0:World}{A:Type}(f call)(T:World->Prop)(ac:ArgC A)(Cd F hF ok)(hT:iC X w0 T)(t:Nat)(args:List SV)(H:Hp):(rZ (P:=P) f call T ac Cd F hF ok hT).fn t args H=Pf (ac.d args) Cd F:=rfl
end
end Go.Sy
