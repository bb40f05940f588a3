/- A symbolic executor, further. No conditions but those in each statement. -/
import Derived.Test.YtapedeoheilnnaaGreatSyA
set_option linter.all false
open Array (getElem?_push getElem?_toList toList_map size_push)
open Nat (mul_le_mul_right add_mul zero_le sub_self mul_one)
open Option (isSome_none map_eq_some_iff map_some getD_some bind_eq_some_iff map_none)
open List (append_assoc mem_of_getElem? getElem?_map length_map getElem?_cons_zero getElem?_cons_succ getElem?_eq_getElem length_take mem_iff_getElem? mem_flatMap getElem?_set getElem?_take getElem?_drop getElem?_append all_eq_true ext_getElem? mem_map)
namespace Go.Sy
open Go.RowKit
theorem OF{P:Prop}(h:P:=by
 have hx:slV (some (w.heap.size,0)) (Kc s n cs).length n= .slice (some ⟨w.heap.size,0,none⟩) n n:=by simp[slV,KI]
 rw[hx]
 unfold madeCells at hfill
 by_cases h0:n*s=0
 .have hb0:(Array.range (n*s)).map (λx=>(#[]:Array Value)[x % (#[]:Array Value).size]!)=(Array.range (n*s)).map (z.cells[· % z.cells.size]!):=by simp[h0]
  simp only[execOp,ho,Instr.buildSlice,Sem.run_bind,run_underlying hu,run_sizeOf hs,Result.andThen_ok,Sem.run_ite,hbig,if_false,if_pos h0,hmap,hb0,hfill,newRow,run_newObj,Sem.run_pure,World.alloc_eq]
 .simp only[execOp,ho,Instr.buildSlice,Sem.run_bind,run_underlying hu,run_sizeOf hs,Result.andThen_ok,Sem.run_ite,hbig,if_false,if_neg h0,GS hz,hmap,hfill,newRow,run_newObj,Sem.run_pure,World.alloc_eq]):P:=h
theorem Yb{P:Prop}(h:P:=by
 by_cases e:k2=k
 .subst e;rw[BM]at h;simp only[jS]at h;subst h;trivial
 .rw[Bm _ _ e]at h
  have h0:=hA.h k2 ch h
  cases ch with
  |dead=>trivial
  |fact p=>exact h0
  |vec u2 z2 es2=>exact⟨h0.1,h0.2.1,IZ hzz h0.2.2 (λb ρ hb=>⟨hlo k2 e b ρ hb,rfl⟩) λ_ _ _ _ _ _ _ _=>rfl⟩
  |mp ag es2=>exact Qi hzz h0 (λb hb=>⟨hlo k2 e b [] (by simpa using hb),rfl⟩) rfl λ_ _=>rfl):P:=h
theorem aR{P:Prop}(h:P:=by
 intro q w' hq
 have h1:args = #[x,y]:=by apply Array.ext';rw[hargs]
 have h2:ts = #[T,U]:=by apply Array.ext';rw[hts]
 subst h1;subst h2
 simp only[execOp,ho,resolve,invoke,Sem.run_bind,Sem.run_pure,Result.andThen_ok,builtin]
 have hm:(#[x,y]:Array Operand).map a.eval = #[a.eval x,a.eval y]:=by simp
 rw[hm,hq];rfl):P:=h
theorem fQ{P:Prop}(h:P:=by
 cases b<;>try rfl
 rename_i v
 cases v<;>first|rfl|exact absurd ⟨_,rfl⟩ hst2):P:=h
theorem kE{P:Prop}(h:P:=by
 by_cases e:k2=k
 .subst e;rw[BM]at h;simp only[jS]at h;subst h;intro n hn;cases hn
 .rw[Bm _ _ e]at h;exact Bc (hA.wf k2 ch h) _ _):P:=h
theorem kF{P:Prop}(h:P:=by exact Fg hA (Bm _ _ e) rfl (λ_ _ _=>rfl) hv):P:=h
theorem mc{P:Prop}(h:P:=by
 apply hd
 intro n hn'
 obtain⟨r,hr1,hn'⟩:=mem_flatMap.1 hn'
 obtain⟨c,hc1,hn'⟩:=mem_flatMap.1 hn'
 obtain⟨i,hi⟩:=mem_iff_getElem?.1 hr1
 obtain⟨j,hj⟩:=mem_iff_getElem?.1 hc1
 exact hn i j r c hi hj n hn'):P:=h
theorem s8{P:Prop}(h:P:=by exact Bc (l:=[p.1]) (by intro q hq;simp at hq;subst hq;exact(hA.fix p hp').1) k .dead p.1 (by simp)):P:=h
theorem AAA{P:Prop}(h:P:=by
 split at hr<;>simp only[jS,jP,reduceCtorEq]at hr
 all_goals (obtain⟨_,rfl⟩:=hr;rfl)):P:=h
theorem AAU{P:Prop}(h:P:=by
 cases j with
 |zero=>simp_all
 |succ j=>simp_all):P:=h
theorem AAW{P:Prop}(h:P:=by
 rcases hb with hb|⟨ρ,hb⟩
 .have:=hA.fzl b hb
  exact⟨this.1,by simp[lab',this.2]⟩
 .exact⟨(hA.own b _ hb).1,by simp[lab',hb]⟩):P:=h
theorem AAc{P:Prop}(h:P:=by
 funext n
 simp only[upd,updH]
 by_cases e5:n=t
 .subst e5;simp[Ne.symm hkt]
 .simp[e5]):P:=h
theorem AAd{P:Prop}(h:P:=by
 intro p hp'
 obtain⟨g1,g2⟩:=hA.fix p hp'
 exact⟨GT (l:=[p.1]) _ (by intro q hq;simp at hq;subst hq;exact g1) p.1 (by simp),g2⟩):P:=h
theorem AAe{P:Prop}(h:P:=by
 split at h
 .rename_i z hz
  simp only[rV,jS,jP]at h
  obtain⟨h1',h2',_⟩:=h
  exact key z hz h1'.symm h2'.symm
 cases h):P:=h
theorem AAh{P:Prop}(h:P:=by
 split at h
 .grind
 cases h):P:=h
theorem AAr{P:Prop}(h:P:=by
 rename_i T m k v ho
 split at h
 .rename_i hd;exact Qk T m k v (λρ=>by simp only[execOp,ho]) hd hE hW hA h hc
 cases h):P:=h
theorem AA1{P:Prop}(h:P:=by
 cases res with
 |none=>simp only[Sem.run_bind,GS hz,Result.andThen_ok,Sem.run_pure];cases ok<;>rfl
 |some p=>simp_all):P:=h
variable{x y:Value}{k u t off i s j b cap len m:Nat}{es es' rows:List (List C)}{w':World}{v:SV}{I':Nm}{α:Type}{cc:C}{h':Bf}{π:List Nat}{fz':Nat->Prop}{H':Hp}{p:List (Nat×Nat)}{lab':Lab}{arr:Array Value}{z':List C}{ag:Bool}
structure Kept(M:Nat->Prop)(w w':World):Prop where
 os:w'.os=w.os
 tape:w'.tape=w.tape
 output:w'.output=w.output
 size:w.heap.size<=w'.heap.size
 block:∀k,k<w.heap.size->¬M k->w'.heap[k]?=w.heap[k]?
theorem Kept.refl(M:Nat->Prop)(w:World):Kept M w w:=⟨rfl,rfl,rfl,Nat.le_refl _,λ_ _ _=>rfl⟩
theorem Kept.trans{M M':Nat->Prop}{a b c:World}(h:Kept M a b)(k:Kept M' b c)(hM:∀x,x<a.heap.size->M' x->M x):Kept M a c:=
 ⟨k.os.trans h.os,k.tape.trans h.tape,k.output.trans h.output,Nat.le_trans h.size k.size,
  λi hi hm=>(k.block i (Nat.lt_of_lt_of_le hi h.size) (λhx=>hm (hM i hi hx))).trans (h.block i hi hm)⟩
theorem Kept.of_below{w:World}(h:Below w.heap.size w w')(M:Nat->Prop):Kept M w w':=⟨h.os,h.tape,h.output,h.size,λk hk _=>h.block k hk⟩
theorem Kept.below{M:Nat->Prop}{w:World}(h:Kept M w w')(hM:∀x,x<w.heap.size->¬M x):Below w.heap.size w w':=
 ⟨h.os,h.tape,h.output,h.size,λk hk=>h.block k hk (hM k hk)⟩
structure Ctx where
 M:Nat->Prop
 Z:Nat->Prop
 F:List (Nat×NV)
 pn:Option (List (Nat×List C×List (List C))):=none
 dfs:List Deferred:=[]
 kp:List (Nat×Value):=[]
abbrev hp(w:World):Bf:=λb=>w.heap[b]?
def b6(h:Bf)(fz:Nat->Prop)(lab:Lab)(I:Nm)(k:Nat)(ag:Bool)(es:List (List UInt8×List C)):Prop:=
 ∃r entries clock,I k=⟨some (r,0),0,0,0,true⟩/\lab r=some [k]/\h r=some (.map entries clock)/\entries.size=es.length/\
  ∀(i:Nat) (p:List UInt8×List C),es[i]?=some p->∃e,entries[i]?=some e/\e.key= .string (bs p.1)/\
   (
    match ag with
    |true=>∃arr,e.val= .agg arr/\arr.size=p.2.length/\∀(j:Nat) (c:C),p.2[j]?=some c->∃y,arr[j]?=some y/\c.stor=true/\Den h fz lab I [] c y
    |false=>∃c,p.2=[c]/\c.stor=true/\Den h fz lab I [] c e.val)
def Mw(h:Bf)(fz:Nat->Prop)(lab:Lab)(I:Nm)(k:Nat):Ch->Prop
 | .dead=>True
 | .vec _ z es=>(I k).mp=false/\(I k).s=z.length/\EY h fz lab I [k] z es (I k).v
 | .mp ag es=>b6 h fz lab I k ag es
 | .fact p=>p
def chNames:Ch->List Nat
 | .dead=>[]
 | .vec _ _ es=>es.flatMap λr=>r.flatMap C.names
 | .mp _ es=>es.flatMap λp=>p.2.flatMap C.names
 | .fact _=>[]
def Dom(H:Hp)(l:List Nat):Prop:=∀k∈l,(H k).isSome=true
structure AtW(X:Ctx)(w0:World)(I:Nm)(lab:Lab)(fz:Nat->Prop)(H:Hp)(w:World):Prop where
 h:∀k ch,H k=some ch->Mw (hp w) fz lab I k ch
 wf:∀k ch,H k=some ch->Dom H (chNames ch)
 own:∀b π,lab b=some π->b<w.heap.size/\(w0.heap.size<=b∨X.M b)
 fzl:∀b,fz b->b<w.heap.size/\lab b=none
 fzo:∀b,fz b->X.Z b∨w0.heap.size<=b∨X.M b
 kept:Kept X.M w0 w
 fix:∀p∈X.F,(H p.1).isSome=true/\I p.1=p.2
def upd{α:Type}(f:Nat->Option α)(k:Nat)(x:α):Nat->Option α:=λj=>if j=k then some x else f j
def updH(H:Hp):List (Nat×Ch)->Hp
 |[]=>H
 |(k,c)::r=>updH (upd H k c) r
theorem BM(f:Nat->Option α)(k:Nat)(x:α):upd f k x k=some x:=by simp[upd]
theorem Bm(f:Nat->Option α)(x:α)(h:j≠k):upd f k x j=f j:=by simp[upd,h]
theorem Bc{H:Hp}{l:List Nat}(h:Dom H l)(k:Nat)(c:Ch):Dom (upd H k c) l:=by
 intro j hj
 by_cases e:j=k
 .subst e;simp[upd]
 rw[Bm _ _ e];exact h j hj
theorem GT{l:List Nat}:∀(u:List (Nat×Ch)) {H:Hp},Dom H l->Dom (updH H u) l
 |[],H,h=>h
 |(k,c)::r,H,h=>GT r (Bc h k c)
def wkC(c c':C):Prop:=c'= .any∨c'=c
theorem A0V(c:C):wkC c c=True:=by simp[wkC]
def wkR:List C->List C->Prop
 |[],[]=>True
 |c::r,c'::r'=>wkC c c'/\wkR r r'
 |_,_=>False
def wkL:List (List C)->List (List C)->Prop
 |[],[]=>True
 |r::es,r'::es'=>wkR r r'/\wkL es es'
 |_,_=>False
def pn1:Option Ch->List C->List (List C)->Prop
 |some (.vec _ z' es'),z,es=>z'=z/\wkL es' es
 |_,_,_=>False
theorem A55(u:Nat)(z':List C)(es':List (List C))(z:List C)(es:List (List C)):pn1 (some (.vec u z' es')) z es=(z'=z/\wkL es' es):=rfl
def LV:List (Nat×List C×List (List C))->Hp->Prop
 |[],_=>True
 |(k,z,es)::r,H=>pn1 (H k) z es/\LV r H
def pnO:Option (List (Nat×List C×List (List C)))->Hp->Prop
 |some l,H=>LV l H
 |none,_=>False
theorem om(l:List (Nat×List C×List (List C)))(H:Hp):pnO (some l) H=LV l H:=rfl
def pnN:Option (List (Nat×List C×List (List C)))->List Nat
 |some l=>l.map (·.1)
 |none=>[]
theorem UO:∀{l:List (Nat×List C×List (List C))} {H H':Hp},(∀k∈l.map (·.1),H' k=H k)->LV l H'=LV l H
 |[],_,_,_=>rfl
 |(k,z,es)::r,H,H',h=>by
  simp only[LV]
  rw[h k (by simp),UO λj hj=>h j (by simp only[List.map_cons,List.mem_cons];exact .inr hj)]
theorem Sd{o:Option (List (Nat×List C×List (List C)))}{H:Hp}(h:∀k∈pnN o,H' k=H k):pnO o H'=pnO o H:=by
 cases o with
 |none=>rfl
 |some l=>exact UO h
def b7(ch:List PanicEntry):Prop:=∃T y,ch=[{ v:=.iface T y,recovered:=false }]
def Kh(X:Ctx)(w0:World)(ch:List PanicEntry)(w':World):Prop:=
 b7 ch/\∃I lab fz H,AtW X w0 I lab fz H w'/\pnO X.pn H
theorem PD{P:Program}{f:FuncId}{args:Array Value}{w:World}{R R':Ending->World->Prop}(h:Calls P f args w R):Calls P f args w (λen w'=>R en w'∨R' en w'):=h.mono λ_ _ h=>.inl h
def I6(X:Ctx)(w0 w:World)(I:Nm)(lab:Lab)(fz:Nat->Prop)(H:Hp)(v:Option SV)(u:List (Nat×Ch))(x:Value)(w':World):Prop:=
 ∃I' lab' fz',AtW X w0 I' lab' fz' (updH H u) w'/\(∀s,v=some s->Ap (hp w') fz' lab' I' (updH H u) s x)/\Pres (hp w) (hp w') fz fz' I I' H (updH H u)
section
variable {X:Ctx}{w0 w:World}{I:Nm}{lab:Lab}{fz:Nat->Prop}{H:Hp}
theorem Uw(hA:AtW X w0 I lab fz H w)(hv:Ap (hp w) fz lab I H v x):I6 X w0 w I lab fz H (some v) [] x w:=
 ⟨I,lab,fz,hA,λs hs=>by simp only[jS]at hs;subst hs;exact hv,Pres.refl _ _ _ _⟩
theorem AtW.drew(hA:AtW X w0 I lab fz H w)(w1:World)(hh:w1.heap=w.heap)(h1:w1.os=w.os)(h2:w1.tape=w.tape)(h3:w1.output=w.output):AtW X w0 I lab fz H w1:=by
 have e:hp w1=hp w:=by funext b;simp[hp,hh]
 refine⟨by rw[e];exact hA.h,hA.wf,by rw[hh];exact hA.own,by rw[hh];exact hA.fzl,hA.fzo,⟨h1.trans hA.kept.os,h2.trans hA.kept.tape,h3.trans hA.kept.output,by rw[hh];exact hA.kept.size,by rw[hh];exact hA.kept.block⟩,hA.fix⟩
theorem vR{n:NV}(hm:n.mp=false)(h:n.v=slV (some (b,off)) len cap):n.b=some (b,off)/\n.len=len/\n.cap=cap:=by
 unfold NV.v at h
 rw[hm]at h
 simp only[jB,if_false,slV,Value.slice.injEq]at h
 obtain⟨h1,h2,h3⟩:=h
 refine⟨?_,h2,h3⟩
 cases hb:n.b with
 |none=>simp[hb]at h1
 |some x=>grind
theorem OX(hA:AtW X w0 I lab fz H w){z:List C}(hk:H k=some (.vec u z es)){i:Nat}(hi:i<es.length):
  ∃b off cap arr T,I k=⟨some (b,off),es.length,cap,z.length,false⟩/\lab b=some [k]/\hp w b=some (.cells arr T (0,0))/\(off+cap*z.length<=arr.size/\zOK z T off)/\es.length<=cap/\
   ∀(i:Nat) (cs:List C),es[i]?=some cs->cs.length=z.length/\∀(j:Nat) (c:C),cs[j]?=some c->∃y,arr[off+i*z.length+j]?=some y/\Den (hp w) fz lab I ([k]++[i,j]) c y:=by
 obtain⟨h1,h2,h3⟩:=hA.h k _ hk
 rcases h3 with⟨rfl,_⟩|⟨b,off,cap,arr,T,hx,hb,hh,hsz,hcap,hc⟩
 .simp at hi
 .obtain⟨g1,g2,g3⟩:=vR h1 hx
  refine⟨b,off,cap,arr,T,?_,hb,hh,hsz,hcap,hc⟩
  rw[<- g1,<- g2,<- g3,<- h2,<- h1]
theorem b8{z:List C}(h:inP p z es):0<es.length:=by
 match p,h with
 |[(i,j)],h=>simp only[inP]at h;omega
 |(i,j)::p::r,h=>have:=h.1;omega
theorem FT{l:List α}{d:α}(h:i<l.length):l[i]?=some (l.getD i d):=by simp_all
theorem Fw(a:Option (Nat×Nat))(n c:Nat):I4 (slV a n c)=a:=by
 cases a<;>rfl
theorem Yk{h:Bf}{fz:Nat->Prop}{lab:Lab}{I:Nm}:∀(p:List (Nat×Nat)) {π:List Nat} {z:List C} {es:List (List C)} {v x:Value},EY h fz lab I π z es v->(∀b ρ,lab b=some (π++ρ)->h' b=h b)->inP p z es->AtP h p (I4 v) z es x->AtP h' p (I4 v) z es x
 |[],_,_,_,_,_,_,_,hi,_=>hi.elim
 |[(i,j)],π,z,es,v,x,hv,hb,hi,ha=>by
  rcases hv with⟨rfl,_⟩|⟨b,off,cap,arr,T,rfl,hlb,hh,hsz,hcap,hc⟩
  .simp[inP]at hi
  rw[Fw]at ha ⊢
  obtain⟨b',off',arr',T',m',e1,e2,e3⟩:=ha
  simp only[jS,jP]at e1
  obtain⟨rfl,rfl⟩:=e1
  exact⟨b,off,arr',T',m',rfl,by rw[hb b [] (by simpa using hlb)];exact e2,e3⟩
 |(i,j)::q::r,π,z,es,v,x,hv,hb,hi,ha=>by
  rcases hv with⟨rfl,_⟩|⟨b,off,cap,arr,T,rfl,hlb,hh,hsz,hcap,hc⟩
  .have:=b8 hi;simp at this
  rw[Fw]at ha ⊢
  obtain⟨b',off',arr',T',m',y,e1,e2,e3,e4⟩:=ha
  simp only[jS,jP]at e1
  obtain⟨rfl,rfl⟩:=e1
  obtain⟨hi1,hi2⟩:=hi
  refine⟨b,off,arr',T',m',y,rfl,by rw[hb b [] (by simpa using hlb)];exact e2,e3,?_⟩
  split at e4
  .rename_i z' es' hg
   rw[hg]at hi2
   obtain⟨_,q2⟩:=hc i _ (FT (d:=z) hi1)
   obtain⟨y',y1,y2⟩:=q2 j _ hg
   rw[hh]at e2
   simp only[jS,Obj.cells.injEq]at e2
   obtain⟨rfl,_,_⟩:=e2
   rw[y1]at e3
   simp only[jS]at e3
   subst e3
   exact Yk (q::r) (Ik y2).1 (λb ρ hb'=>hb b ([i,j]++ρ) (by rw[<- append_assoc];exact hb')) hi2 e4
  exact e4.elim
theorem Jg{h:Bf}{fz:Nat->Prop}{lab:Lab}{I:Nm}:∀(p:List (Nat×Nat)) {π:List Nat} {z:List C} {es:List (List C)} {v x:Value} {c:C},EY h fz lab I π z es v->inP p z es->Et p z es=some c->AtP h p (I4 v) z es x->Den h fz lab I (π++flatP p) c x
 |[],_,_,_,_,_,_,_,hi,_,_=>hi.elim
 |[(i,j)],π,z,es,v,x,c,hv,hi,hg,ha=>by
  rcases hv with⟨rfl,_⟩|⟨b,off,cap,arr,T,rfl,hlb,hh,hsz,hcap,hc⟩
  .simp[inP]at hi
  rw[Fw]at ha
  obtain⟨b',off',arr',T',m',e1,e2,e3⟩:=ha
  simp only[jS,jP]at e1
  obtain⟨rfl,rfl⟩:=e1
  rw[hh]at e2
  simp only[jS,Obj.cells.injEq]at e2
  obtain⟨rfl,_,_⟩:=e2
  obtain⟨_,q2⟩:=hc i _ (FT (d:=z) hi)
  obtain⟨y,y1,y2⟩:=q2 j c hg
  rw[y1]at e3
  simp only[jS]at e3
  subst e3
  exact y2
 |(i,j)::q::r,π,z,es,v,x,c,hv,hi,hg,ha=>by
  rcases hv with⟨rfl,_⟩|⟨b,off,cap,arr,T,rfl,hlb,hh,hsz,hcap,hc⟩
  .have:=b8 hi;simp at this
  rw[Fw]at ha
  obtain⟨b',off',arr',T',m',y,e1,e2,e3,e4⟩:=ha
  simp only[jS,jP]at e1
  obtain⟨rfl,rfl⟩:=e1
  obtain⟨hi1,hi2⟩:=hi
  simp only[Et]at hg
  split at e4
  .rename_i z' es' hg'
   rw[hg']at hi2 hg
   obtain⟨_,q2⟩:=hc i _ (FT (d:=z) hi1)
   obtain⟨y',y1,y2⟩:=q2 j _ hg'
   rw[hh]at e2
   simp only[jS,Obj.cells.injEq]at e2
   obtain⟨rfl,_,_⟩:=e2
   rw[y1]at e3
   simp only[jS]at e3
   subst e3
   have:=Jg (q::r) (Ik y2).1 hi2 hg e4
   simpa [flatP,append_assoc] using this
  exact e4.elim
theorem Qh{h:Bf}{fz:Nat->Prop}{lab:Lab}{I:Nm}:∀(p:List (Nat×Nat)) {π:List Nat} {z:List C} {es:List (List C)} {v:Value} {c:C},EY h fz lab I π z es v->inP p z es->Et p z es=some c->∃y,AtP h p (I4 v) z es y
 |[],_,_,_,_,_,_,hi,_=>hi.elim
 |[(i,j)],π,z,es,v,c,hv,hi,hg=>by
  rcases hv with⟨rfl,_⟩|⟨b,off,cap,arr,T,rfl,hlb,hh,hsz,hcap,hc⟩
  .simp[inP]at hi
  obtain⟨_,q2⟩:=hc i _ (FT (d:=z) hi)
  obtain⟨y,y1,y2⟩:=q2 j c hg
  exact⟨y,b,off,arr,T,(0,0),Fw _ _ _,hh,y1⟩
 |(i,j)::q::r,π,z,es,v,c,hv,hi,hg=>by
  rcases hv with⟨rfl,_⟩|⟨b,off,cap,arr,T,rfl,hlb,hh,hsz,hcap,hc⟩
  .have:=b8 hi;simp at this
  obtain⟨hi1,hi2⟩:=hi
  simp only[Et]at hg
  split at hi2
  .rename_i z' es' hg'
   simp only[hg']at hg
   obtain⟨_,q2⟩:=hc i _ (FT (d:=z) hi1)
   obtain⟨y',y1,y2⟩:=q2 j _ hg'
   obtain⟨y,hy⟩:=Qh (q::r) (Ik y2).1 hi2 hg
   refine⟨y,b,off,arr,T,(0,0),y',Fw _ _ _,hh,y1,?_⟩
   simp only[hg'];exact hy
  exact hi2.elim
theorem kv{h:Bf}{fz:Nat->Prop}{lab:Lab}{I:Nm}(p:List (Nat×Nat)){z:List C}{es':List (List C)}{v:Value}(hv:EY h fz lab I π z es v)(hi:inP p z es)(hg:Et p z es=some (.ov z' es')):∀r∈es',∀c∈r,c.names=[]:=by
 intro r hr c hc
 obtain⟨y,hy⟩:=Qh p hv hi hg
 obtain⟨_,hcl⟩:=Ik (Jg p hv hi hg hy)
 obtain⟨i,hi'⟩:=mem_iff_getElem?.1 hr
 obtain⟨j,hj⟩:=mem_iff_getElem?.1 hc
 exact hcl i j r c hi' hj
theorem b9{h:Bf}:∀(p:List (Nat×Nat)) {a:Option (Nat×Nat)} {z:List C} {es:List (List C)} {y:Value} {z':List C} {es':List (List C)} {m j b off:Nat} {arr:Array Value} {T:TypeId} {mm:Nat×Nat},AtP h p a z es y->Et p z es=some (.ov z' es')->I4 y=some (b,off)->h b=some (.cells arr T mm)->arr[off+m*z'.length+j]?=some x->AtP h (p++[(m,j)]) a z es x
 |[],_,_,_,_,_,_,_,_,_,_,_,_,_,ha,_,_,_,_=>ha.elim
 |[(i0,j0)],a,z,es,y,z',es',m,j,b,off,arr,T,mm,ha,hg,hy,hb,hx=>by
  obtain⟨b',off',arr',T',m',e1,e2,e3⟩:=ha
  simp only[Et]at hg
  refine⟨b',off',arr',T',m',y,e1,e2,e3,?_⟩
  rw[hg]
  exact⟨b,off,arr,T,mm,hy,hb,hx⟩
 |(i0,j0)::q::r,a,z,es,y,z',es',m,j,b,off,arr,T,mm,ha,hg,hy,hb,hx=>by
  obtain⟨b',off',arr',T',m',y',e1,e2,e3,e4⟩:=ha
  simp only[Et]at hg
  split at e4
  .rename_i z2 es2 hg2
   simp only[hg2]at hg
   refine⟨b',off',arr',T',m',y',e1,e2,e3,?_⟩
   simp only[hg2]
   exact b9 (q::r) e4 hg hy hb hx
  exact e4.elim
theorem Fg(hA:AtW X w0 I lab fz H w)(hH:H' k=H k)(hI:I' k=I k)(hb:∀b ρ,lab b=some ([k]++ρ)->hp w' b=hp w b)(hv:Vw (hp w) I H k u p x):
  Vw (hp w') I' H' k u p x:=by
 refine⟨hv.1,λu' z es hk=>?_⟩
 rw[hH]at hk
 obtain⟨h1,h2⟩:=hv.2 u' z es hk
 refine⟨h1,λe hi ho=>?_⟩
 obtain⟨m1,m2,m3⟩:=hA.h k _ hk
 have hbase:I4 (I k).v=(I k).b:=by unfold NV.v;rw[m1];exact Fw _ _ _
 have:=Yk p m3 hb hi (by rw[hbase];exact h2 e hi ho)
 rw[hbase]at this
 rw[hI];exact this
theorem L1(hA:AtW X w0 I lab fz H w){u0 u1:Nat}{z:List C}(hk:H k=some (.vec u0 z es))(hk':H' k=some (.vec u1 z' es'))(hu:u0<u1)(hv:Vw (hp w) I H k u p x):
  Vw (hp w') I' H' k u p x:=by
 refine⟨hv.1,λu' z2 es2 h2=>?_⟩
 rw[hk']at h2
 simp only[jS,Ch.vec.injEq]at h2
 obtain⟨rfl,_,_⟩:=h2
 have:=(hv.2 u0 z es hk).1
 exact⟨by omega,λe=>by omega⟩
theorem Jz(hk':H' k=some .dead)(hv:Vw (hp w) I H k u p x):Vw (hp w') I' H' k u p x:=
 ⟨hv.1,λu' z2 es2 h2=>by rw[hk']at h2;simp at h2⟩
theorem Qi{h:Bf}{fz:Nat->Prop}{lab:Lab}{I:Nm}(hz:∀b,fz b->fz' b/\h' b=h b){es:List (List UInt8×List C)}(r:b6 h fz lab I k ag es)
  (hl:∀b,lab b=some [k]->lab' b=some [k]/\h' b=h b) (hk:I' k=I k) (hI:∀n∈chNames (.mp ag es),I' n=I n):b6 h' fz' lab' I' k ag es:=by
 obtain⟨b,entries,clock,h1,h2,h3,h4,h5⟩:=r
 refine⟨b,entries,clock,hk.trans h1,(hl b h2).1,(hl b h2).2.trans h3,h4,λi p hp'=>?_⟩
 obtain⟨e,g1,g2,g3⟩:=h5 i p hp'
 refine⟨e,g1,g2,?_⟩
 have hn:∀c∈p.2,∀n∈c.names,I' n=I n:=λc hc n hn=>hI n (mem_flatMap.2 ⟨p,mem_of_getElem? hp',mem_flatMap.2 ⟨c,hc,hn⟩⟩)
 have fl:∀c:C,c.stor=true->c.flat=true:=by intro c hc;cases c<;>first|rfl|(simp[C.stor]at hc)
 cases ag with
 |true=>
  obtain⟨arr,a1,a2,a3⟩:=g3
  refine⟨arr,a1,a2,λj c hc=>?_⟩
  obtain⟨y,b1,b2,b3⟩:=a3 j c hc
  exact⟨y,b1,b2,DT hz (fl c b2) b3 (hn c (mem_of_getElem? hc))⟩
 |false=>
  obtain⟨c,a1,a2,a3⟩:=g3
  exact⟨c,a1,a2,DT hz (fl c a2) a3 (hn c (by rw[a1];exact List.mem_cons_self ..))⟩
theorem Lw(hA:AtW X w0 I lab fz H w){ch:Ch}(hk:H k=some ch)(hz:∀b,fz b->fz' b/\hp w' b=hp w b)(hI:∀n,(H n).isSome=true->I' n=I n)
  (hl:∀b ρ,lab b=some ([k]++ρ)->lab' b=some ([k]++ρ)/\hp w' b=hp w b):Mw (hp w') fz' lab' I' k ch:=by
 have h0:=hA.h k ch hk
 have hd:(H k).isSome=true:=by simp[hk]
 have hw:=hA.wf k ch hk
 cases ch with
 |dead=>trivial
 |fact p=>exact h0
 |vec u z es=>
  obtain⟨h1,h2,h3⟩:=h0
  refine⟨by rw[hI k hd];exact h1,by rw[hI k hd];exact h2,?_⟩
  rw[hI k hd]
  exact IZ hz h3 hl λi j cs c g1 g2 n hn=>hI n (hw n (mem_flatMap.2 ⟨cs,mem_of_getElem? g1,mem_flatMap.2 ⟨c,mem_of_getElem? g2,hn⟩⟩))
 |mp ag es=>exact Qi hz h0 (λb hb=>by have:=hl b [] (by simpa using hb);simpa using this) (hI k hd) λn hn=>hI n (hw n hn)
theorem IC{c:C}(h:c.stor=true):c.flat=true:=by cases c<;>first|rfl|(simp[C.stor]at h)
def A0W(es es':List (List C)):Prop:=
 es'.length=es.length/\∀(i:Nat) (r':List C),es'[i]?=some r'->∃r,es[i]?=some r/\r'.length=r.length/\∀(j:Nat) (c:C),r'[j]?=some c->r[j]?=some c∨(c= .any/\∃c0,r[j]?=some c0)
theorem Ux{h:Bf}{fz:Nat->Prop}{lab:Lab}{I:Nm}{z:List C}(r:EY h fz lab I π z es x)(hw:A0W es es'):EY h fz lab I π z es' x:=by
 rcases r with⟨rfl,h2⟩|⟨b,off,cap,arr,T,rfl,hb,hh,hsz,hcap,hc⟩
 .have:=hw.1;simp at this;subst this;exact .inl ⟨rfl,h2⟩
 refine .inr ⟨b,off,cap,arr,T,by rw[hw.1],hb,hh,hsz,by rw[hw.1];exact hcap,λi r' hr'=>?_⟩
 obtain⟨r,g1,g2,g3⟩:=hw.2 i r' hr'
 refine⟨by rw[g2];exact(hc i r g1).1,λj c hj=>?_⟩
 rcases g3 j c hj with e|⟨rfl,c0,e⟩
 .simp_all
 obtain⟨y,y1,y2⟩:=(hc i r g1).2 j c0 e
 exact⟨y,y1,.any _ y (Jt y2)⟩
structure PresB(t:Nat)(h h':Bf)(fz fz':Nat->Prop)(I I':Nm)(H H':Hp):Prop where
 z:∀b,fz b->fz' b/\h' b=h b
 n:∀k,k≠t->(H k).isSome=true->I' k=I k
 d:∀k,k≠t->(H k).isSome=true->(H' k).isSome=true
 w:∀k u p x,k≠t->(H k).isSome=true->Vw h I H k u p x->Vw h' I' H' k u p x
theorem PresB.comp{h1 h2 h3:Bf}{f1 f2 f3:Nat->Prop}{I1 I2 I3:Nm}{H1 H2 H3:Hp}(a:PresB t h1 h2 f1 f2 I1 I2 H1 H2)(b:PresB t h2 h3 f2 f3 I2 I3 H2 H3):PresB t h1 h3 f1 f3 I1 I3 H1 H3:=
 ⟨λx hx=>⟨(b.z x (a.z x hx).1).1,((b.z x (a.z x hx).1).2).trans (a.z x hx).2⟩,λk hk hs=>(b.n k hk (a.d k hk hs)).trans (a.n k hk hs),λk hk hs=>b.d k hk (a.d k hk hs),λk u p x hk hs hv=>b.w k u p x hk (a.d k hk hs) (a.w k u p x hk hs hv)⟩
theorem PresB.pres{h:Bf}{fz:Nat->Prop}{I:Nm}{H:Hp}(a:PresB t h h' fz fz' I I' H H')(ht:H t=none):Pres h h' fz fz' I I' H H':=by
 have ne:∀k,(H k).isSome=true->k≠t:=by rintro k hk rfl;rw[ht]at hk;cases hk
 exact⟨a.z,λk hk=>a.n k (ne k hk) hk,λk u p x hk hv=>a.w k u p x (ne k hk) hk hv⟩
theorem KH(hA:AtW X w0 I lab fz H w)(hpriv:∀k ch,k≠t->H k=some ch->t∉chNames ch)(hF:∀p∈X.F,p.1≠t)(nv:NV)(hm:nv.mp=false)(z:List C)(es:List (List C))(hs:nv.s=z.length)
  (hz:∀b,fz b->hp w' b=hp w b) (hl:∀k ch,k≠t->H k=some ch->ch≠.dead->∀b ρ,lab b=some ([k]++ρ)->lab' b=some ([k]++ρ)/\hp w' b=hp w b)
  (ho:∀b π,lab' b=some π->b<w'.heap.size/\(w0.heap.size<=b∨X.M b)) (hf:∀b,fz b->b<w'.heap.size/\lab' b=none) (hk:Kept X.M w0 w')
  (hv:EY (hp w') fz lab' (λn=>if n=t then nv else I n) [t] z es nv.v) (hn:∀(i j:Nat) (cs:List C) (c:C),es[i]?=some cs->cs[j]?=some c->Dom H c.names) :
  AtW X w0 (λn=>if n=t then nv else I n) lab' fz (upd H t (.vec 0 z es)) w'/\PresB t (hp w) (hp w') fz fz I (λn=>if n=t then nv else I n) H (upd H t (.vec 0 z es)):=by
 have hd:∀l,Dom H l->Dom (upd H t (.vec 0 z es)) l:=λl hl=>Bc hl _ _
 have hoth:∀k2,k2≠t->upd H t (.vec 0 z es) k2=H k2:=λk2 h=>Bm _ _ h
 have hzz:∀b,fz b->fz b/\hp w' b=hp w b:=λb hb=>⟨hb,hz b hb⟩
 refine⟨⟨?_,?_,ho,hf,hA.fzo,hk,?_⟩,hzz,λk hk _=>by simp[hk],λk hk hs=>by rw[hoth k hk];exact hs,?_⟩
 .intro k2 ch h
  by_cases e:k2=t
  .subst e
   rw[BM]at h;simp only[jS]at h;subst h
   exact⟨by simp[hm],by simp[hs],by simpa using hv⟩
  .rw[hoth k2 e]at h
   have h0:=hA.h k2 ch h
   have hd2:(H k2).isSome=true:=by simp[h]
   have hw:=hA.wf k2 ch h
   have hI:∀n∈chNames ch,(if n=t then nv else I n)=I n:=by grind
   cases ch with
   |dead=>trivial
   |fact p=>exact h0
   |vec u z2 es2=>
    obtain⟨h1,h2,h3⟩:=h0
    refine⟨by simpa [e] using h1,by simpa [e] using h2,?_⟩
    simp only[e,if_false]
    exact IZ hzz h3 (hl k2 _ e h (by simp)) λi j cs c g1 g2 n hn'=>hI n (mem_flatMap.2 ⟨cs,mem_of_getElem? g1,mem_flatMap.2 ⟨c,mem_of_getElem? g2,hn'⟩⟩)
   |mp ag es2=>exact Qi hzz h0 (λb hb=>by have:=hl k2 _ e h (by simp) b [] (by simpa using hb);simpa using this) (by simp[e]) hI
 .intro k2 ch h
  by_cases e:k2=t
  .subst e
   rw[BM]at h;simp only[jS]at h;subst h
   exact mc
  .rw[hoth k2 e]at h
   exact hd _ (hA.wf k2 ch h)
 .intro p hp'
  obtain⟨g1,g2⟩:=hA.fix p hp'
  have:=hF p hp'
  exact⟨by rw[hoth _ this];exact g1,by simp[this,g2]⟩
 .intro k u p x hk hs hv2
  obtain⟨ch,hch⟩:=Option.isSome_iff_exists.1 hs
  by_cases e:ch= .dead
  .exact Jz (by rw[hoth k hk,hch,e]) hv2
  .exact Fg hA (hoth k hk) (by simp[hk]) (λb ρ hb=>(hl k ch hk hch e b ρ hb).2) hv2
theorem AtW.priv(hA:AtW X w0 I lab fz H w)(ht:H t=none):(∀k ch,k≠t->H k=some ch->t∉chNames ch)/\∀p∈X.F,p.1≠t:=by
 refine⟨λk ch _ hk hn=>?_,λp hp' e=>?_⟩
 .have:=hA.wf k ch hk t hn;rw[ht]at this;cases this
 have:=(hA.fix p hp').1;rw[e,ht]at this;cases this
theorem Md(hA:AtW X w0 I lab fz H w)(w1:World)(hh:w1.heap=w.heap)(h1:w1.os=w.os)(h2:w1.tape=w.tape)(h3:w1.output=w.output)(t:Nat)(ht:H t=none)
  (z:List C) (es:List (List C)) (arr:Array Value) (T:TypeId) (cap:Nat) (hcap:es.length<=cap) (hsz:cap*z.length<=arr.size) (hzt:zOK z T 0)
  (hr:∀(i:Nat) (cs:List C),es[i]?=some cs->cs.length=z.length/\∀(j:Nat) (c:C),cs[j]?=some c->c.stor=true/\Dom H c.names/\∃y,arr[i*z.length+j]?=some y/\Den (hp w) fz lab I [] c y)
  (v:SV) (x:Value)
  (hv:v= .one (.p t 0 0)/\x=ptV (some (w.heap.size,0)) 0∨v= .one (.s t)/\x=slV (some (w.heap.size,0)) es.length cap) :
  I6 X w0 w I lab fz H (some v) [(t,.vec 0 z es)] x (w1.alloc (.cells arr T)):=by
 obtain⟨p1,p2⟩:=hA.priv ht
 let nv:NV:=⟨some (w.heap.size,0),es.length,cap,z.length,false⟩
 let lab':Lab:=λb=>if b=w.heap.size then some [t] else lab b
 have hsize:(w1.alloc (.cells arr T)).heap.size=w.heap.size+1:=by simp_all
 have hlt:∀b,b≠w.heap.size->hp (w1.alloc (.cells arr T)) b=hp w b:=by
  intro b hb
  show (w1.heap.push _)[b]?=w.heap[b]?
  rw[hh,getElem?_push]
  simp[hb]
 have hself:hp (w1.alloc (.cells arr T)) w.heap.size=some (.cells arr T (0,0)):=by
  show (w1.heap.push _)[w.heap.size]?=_
  rw[hh,getElem?_push]
  simp
 have hzb:∀b,fz b->hp (w1.alloc (.cells arr T)) b=hp w b:=λb hb=>hlt b (by have:=(hA.fzl b hb).1;omega)
 have hI:∀n,(H n).isSome=true->(if n=t then nv else I n)=I n:=by grind
 obtain⟨r1,r2⟩:=KH (lab':=lab') (w':=w1.alloc (.cells arr T)) hA p1 p2 nv rfl z es rfl hzb
  (λk ch _ hk _ b ρ hb=>by
   have:b≠w.heap.size:=by have:=(hA.own b _ hb).1;omega
   exact⟨by simp only[lab',this,if_false];exact hb,hlt b this⟩)
  (λb π hb=>by
   by_cases e:b=w.heap.size
   .rw[hsize];exact⟨by omega,.inl (by have:=hA.kept.size;omega)⟩
   .simp only[lab',e,if_false]at hb
    have:=hA.own b π hb
    exact⟨by rw[hsize];omega,this.2⟩)
  (λb hb=>by
   have:=hA.fzl b hb
   exact⟨by rw[hsize];omega,by simp[lab',show b≠w.heap.size by omega,this.2]⟩)
  ⟨h1.trans hA.kept.os,h2.trans hA.kept.tape,h3.trans hA.kept.output,by rw[hsize];have:=hA.kept.size;omega,λb hb hm=>by
   have hs:=hA.kept.size
   rw[<- hA.kept.block b hb hm]
   exact hlt b (by omega)⟩
  (.inr ⟨w.heap.size,0,cap,arr,T,by simp[nv,NV.v],by simp[lab'],hself,⟨by omega,hzt⟩,hcap,λi cs h4=>⟨(hr i cs h4).1,λj c h5=>by
   obtain⟨g1,g2,y,g3,g4⟩:=(hr i cs h4).2 j c h5
   exact⟨y,by rw[Nat.zero_add];exact g3,DT (λb hb=>⟨hb,hzb b hb⟩) (IC g1) g4 λn hn=>hI n (g2 n hn)⟩⟩⟩)
  (λi j cs c g1 g2=>((hr i cs g1).2 j c g2).2.1)
 refine⟨_,lab',fz,r1,?_,r2.pres ht⟩
 intro s hs
 simp only[jS]at hs
 subst hs
 rcases hv with⟨rfl,rfl⟩|⟨rfl,rfl⟩
 .have hx:ptV (some (w.heap.size,0)) 0=((λn=>if n=t then nv else I n) t).p 0 0:=by simp[nv,NV.p]
  rw[hx]
  exact⟨rfl,.p _ _ _ _⟩
 .have hx:slV (some (w.heap.size,0)) es.length cap=((λn=>if n=t then nv else I n) t).v:=by simp[nv,NV.v]
  rw[hx]
  exact⟨rfl,.s _ _⟩
theorem Se(hA:AtW X w0 I lab fz H w)(ht:H t=none){z:List C}(hk:H k=some (.vec u z es)):
  ∃lab',AtW X w0 (λn=>if n=t then I k else I n) lab' fz (upd (upd H k .dead) t (.vec 0 z es)) w/\PresB t (hp w) (hp w) fz fz I (λn=>if n=t then I k else I n) H (upd (upd H k .dead) t (.vec 0 z es)):=by
 classical
 have hkt:k≠t:=by rintro rfl;rw[ht]at hk;cases hk
 let lab':Lab:=λc=>match lab c with
  |some (n::ρ)=>if n=k then some (t::ρ) else some (n::ρ)
  |x=>x
 obtain⟨pr1,pr2⟩:=hA.priv ht
 obtain⟨m1,m2,m3⟩:=hA.h k _ hk
 have hlk:∀c ρ,lab c=some ([k]++ρ)->lab' c=some ([t]++ρ):=by intro c ρ hc;simp[lab',hc]
 have hlo:∀k2,k2≠k->∀c ρ,lab c=some ([k2]++ρ)->lab' c=some ([k2]++ρ):=by intro k2 h c ρ hc;simp[lab',hc,h]
 have hsome:∀c π,lab' c=some π->∃π',lab c=some π':=by grind
 have hA1:AtW X w0 I lab fz (upd H k .dead) w:=by
  refine⟨λk2 ch h=>?_,λk2 ch h=>?_,hA.own,hA.fzl,hA.fzo,hA.kept,λp hp'=>⟨?_,(hA.fix p hp').2⟩⟩
  .by_cases e:k2=k
   .subst e;rw[BM]at h;simp only[jS]at h;subst h;trivial
   .rw[Bm _ _ e]at h;exact hA.h k2 ch h
  .exact kE
  .exact s8
 have hp1:PresB t (hp w) (hp w) fz fz I I H (upd H k .dead):=by
  refine⟨λb hb=>⟨hb,rfl⟩,λ_ _ _=>rfl,λn _ hn=>Bc (l:=[n]) (by intro q hq;simp at hq;subst hq;exact hn) k .dead n (by simp),?_⟩
  intro n u2 p x hnt hn hv
  by_cases e:n=k
  .subst e;exact Jz (BM _ _ _) hv
  .exact kF
 have ht1:(upd H k .dead) t=none:=by rw[Bm _ _ (Ne.symm hkt)];exact ht
 obtain⟨q1,q2⟩:=hA1.priv ht1
 have c1:∀k2 ch,k2≠t->upd H k .dead k2=some ch->ch≠.dead->∀b ρ,lab b=some ([k2]++ρ)->lab' b=some ([k2]++ρ)/\hp w b=hp w b:=by
  intro k2 ch g1 g2 g3 b ρ hb
  refine⟨?_,rfl⟩
  by_cases e:k2=k
  .subst e;rw[BM]at g2;simp only[jS]at g2;exact absurd g2.symm g3
  .grind
 have c2:∀b π,lab' b=some π->b<w.heap.size/\(w0.heap.size<=b∨X.M b):=by
  intro b π hb
  obtain⟨π',h⟩:=hsome b π hb;exact hA.own b π' h
 have c3:∀b,fz b->b<w.heap.size/\lab' b=none:=λb hb=>⟨(hA.fzl b hb).1,by have:=(hA.fzl b hb).2;simp[lab',this]⟩
 have c4:EY (hp w) fz lab' (λn=>if n=t then I k else I n) [t] z es (I k).v:=by
  refine IZ (λb hb=>⟨hb,rfl⟩) m3 (λb ρ hb=>⟨hlk b ρ hb,rfl⟩) λi j cs c g1 g2 n hn=>?_
  have:n≠t:=by
   rintro rfl
   exact pr1 k _ hkt hk (mem_flatMap.2 ⟨cs,mem_of_getElem? g1,mem_flatMap.2 ⟨c,mem_of_getElem? g2,hn⟩⟩)
  simp[this]
 have c5:∀(i j:Nat) (cs:List C) (c:C),es[i]?=some cs->cs[j]?=some c->Dom (upd H k .dead) c.names:=by
  intro i j cs c g1 g2 n hn
  have:=hA.wf k _ hk n (mem_flatMap.2 ⟨cs,mem_of_getElem? g1,mem_flatMap.2 ⟨c,mem_of_getElem? g2,hn⟩⟩)
  exact Bc (l:=[n]) (by intro q hq;simp at hq;subst hq;exact this) k .dead n (by simp)
 obtain⟨r1,r2⟩:=KH (lab':=lab') hA1 q1 q2 (I k) m1 z es m2 (λ_ _=>rfl) c1 c2 c3 hA.kept c4 c5
 exact⟨lab',r1,hp1.comp r2⟩
theorem Ly{h:Bf}{fz:Nat->Prop}{lab:Lab}{I:Nm}(hz:∀b,fz b->fz' b/\h' b=h b){z:List C}{v:Value}{i j:Nat}{c0 c1:C}(hv:EY h fz lab I π z es v)(hi:i<es.length)(hj:(es.getD i z)[j]?=some c0)
  (hy:AtP h [(i,j)] (I4 v) z es y) (hl:∀b ρ,lab b=some (π++ρ)->¬([i,j] <+: ρ)->lab' b=some (π++ρ)/\h' b=h b) (hI:∀(i j:Nat) (cs:List C) (c:C),es[i]?=some cs->cs[j]?=some c->∀k∈c.names,I' k=I k) (h1:Den h' fz' lab' I' (π++[i,j]) c1 y) :
  EY h' fz' lab' I' π z (es.set i ((es.getD i z).set j c1)) v:=by
 rcases hv with⟨rfl,_⟩|⟨b,off,cap,arr,T,rfl,hlb,hh,hsz,hcap,hc⟩
 .simp at hi
 .rw[Fw]at hy
  obtain⟨b',off',arr',T',m',e1,e2,e3⟩:=hy
  simp only[jS,jP]at e1
  obtain⟨rfl,rfl⟩:=e1
  rw[hh]at e2
  simp only[jS,Obj.cells.injEq]at e2
  obtain⟨rfl,_,_⟩:=e2
  obtain⟨l1,l2⟩:=hl b [] (by simpa using hlb) (by simp)
  refine .inr ⟨b,off,cap,arr,T,by simp,by simpa using l1,l2.trans hh,hsz,by simpa using hcap,λi2 cs q1=>?_⟩
  have oth:∀(i2 j2:Nat) (r:List C) (cc:C) (yy:Value),es[i2]?=some r->r[j2]?=some cc->(i2≠i∨j2≠j)->Den h fz lab I (π++[i2,j2]) cc yy->Den h' fz' lab' I' (π++[i2,j2]) cc yy:=by
   intro i2 j2 r cc yy r1 r2 hne hd
   refine Kb hz hd _ (λc' ρ hc'=>?_) λk hk=>hI i2 j2 r cc r1 r2 k hk
   have:=hl c' ([i2,j2]++ρ) (by rw[<- append_assoc];exact hc') (by
    rintro ⟨σ,hσ⟩
    simp at hσ
    omega)
   rwa [<- append_assoc]at this
  rw[getElem?_set]at q1
  split at q1
  .rename_i e0;subst e0
   try rw[if_pos hi]at q1
   simp only[jS]at q1;subst q1
   obtain⟨p1,p2⟩:=hc i _ (FT (d:=z) hi)
   refine⟨by simpa using p1,λj2 c2 q2=>?_⟩
   rw[getElem?_set]at q2
   split at q2
   .grind
   .grind
  .grind
theorem HR:∀(p:List (Nat×Nat)) {z:List C} {es:List (List C)} {c1:C} {i j:Nat} {cs:List C} {c:C},(He p z es c1)[i]?=some cs->cs[j]?=some c->∀n∈c.names,n∈c1.names∨∃r∈es,∃c0∈r,n∈c0.names
 |[],z,es,c1,i,j,cs,c,h1,h2,n,hn=>.inr ⟨cs,mem_of_getElem? h1,c,mem_of_getElem? h2,hn⟩
 |(i0,j0)::r,z,es,c1,i,j,cs,c,h1,h2,n,hn=>by
  have key:∀c2:C,(es.set i0 ((es.getD i0 z).set j0 c2))[i]?=some cs->n∈c2.names∨∃r∈es,∃c0∈r,n∈c0.names:=by
   intro c2 h1
   rw[getElem?_set]at h1
   split at h1
   .split at h1
    .rename_i hlt
     simp only[jS]at h1;subst h1
     rw[getElem?_set]at h2
     split at h2
     .simp_all
     exact .inr ⟨_,mem_of_getElem? (FT (d:=z) hlt),c,mem_of_getElem? h2,hn⟩
    cases h1
   exact .inr ⟨cs,mem_of_getElem? h1,c,mem_of_getElem? h2,hn⟩
  cases r with
  |nil=>exact key c1 h1
  |cons q r=>
  simp only[He]at h1
  split at h1
  .rcases key _ h1 with h|h
   .cases h
   exact .inr h
  exact .inr ⟨cs,mem_of_getElem? h1,c,mem_of_getElem? h2,hn⟩
theorem Uy{h:Bf}{fz:Nat->Prop}{lab:Lab}{I:Nm}(hz:∀b,fz b->fz' b/\h' b=h b):∀(p:List (Nat×Nat)) {π:List Nat} {z:List C} {es:List (List C)} {v y:Value} {c0 c1:C},EY h fz lab I π z es v->inP p z es->Et p z es=some c0->
  AtP h p (I4 v) z es y->(∀b ρ,lab b=some (π++ρ)->¬(flatP p <+: ρ)->lab' b=some (π++ρ)/\h' b=h b)->(∀(i j:Nat) (cs:List C) (c:C),es[i]?=some cs->cs[j]?=some c->∀k∈c.names,I' k=I k)->Den h' fz' lab' I' (π++flatP p) c1 y->c1.names=[]->
  EY h' fz' lab' I' π z (He p z es c1) v
 |[],_,_,_,_,_,_,_,_,hi,_,_,_,_,_,_=>hi.elim
 |[(i,j)],π,z,es,v,y,c0,c1,hv,hi,hg,ha,hl,hI,h1,_=>Ly hz hv hi hg ha hl hI h1
 |(i,j)::q::r,π,z,es,v,y,c0,c1,hv,hi,hg,ha,hl,hI,h1,hn=>by
  obtain⟨hi1,hi2⟩:=hi
  obtain⟨b',off',arr',T',m',y',e1,e2,e3,e4⟩:=ha
  simp only[Et]at hg
  split at e4
  .rename_i z' es' hg'
   rw[hg']at hi2 hg
   have hat:AtP h [(i,j)] (I4 v) z es y':=⟨b',off',arr',T',m',e1,e2,e3⟩
   have hd:=Jg [(i,j)] hv hi1 (by simpa only[Et] using hg') hat
   simp only[flatP]at hd
   obtain⟨d1,d2⟩:=Ik hd
   have e:He ((i,j)::q::r) z es c1=es.set i ((es.getD i z).set j (.ov z' (He (q::r) z' es' c1))):=by simp only[He,hg']
   rw[e]
   refine Ly hz hv hi1 hg' hat (λb ρ hb hne=>hl b ρ hb ?_) hI (WC (Uy hz (q::r) d1 hi2 hg e4 ?_ ?_ ?_ hn) ?_)
   .rintro ⟨σ,hσ⟩
    exact hne ⟨flatP (q::r)++σ,by simpa [flatP] using hσ⟩
   .intro b ρ hb hne
    have:=hl b ([i,j]++ρ) (by rw[<- append_assoc];exact hb) (by
     rintro ⟨σ,hσ⟩
     refine hne ⟨σ,?_⟩
     have h2:i::j::(flatP (q::r)++σ)=i::j::ρ:=by simpa [flatP] using hσ
     simpa using h2)
    rwa [<- append_assoc]at this
   .grind
   .simpa [flatP,append_assoc] using h1
   intro i2 j2 cs c g1 g2
   apply List.eq_nil_iff_forall_not_mem.2
   intro n hn'
   rcases HR (q::r) g1 g2 n hn' with h|⟨r2,hr2,c2,hc2,h⟩
   .simp_all
   obtain⟨i3,hi3⟩:=mem_iff_getElem?.1 hr2
   obtain⟨j3,hj3⟩:=mem_iff_getElem?.1 hc2
   rw[d2 i3 j3 r2 c2 hi3 hj3]at h;cases h
  exact e4.elim
theorem Ig(hA:AtW X w0 I lab fz H w){z:List C}(hk:H k=some (.vec u z es)):EY (hp w) fz lab I [k] z es (I k).v/\I4 (I k).v=(I k).b:=by
 obtain⟨m1,m2,m3⟩:=hA.h k _ hk
 exact⟨m3,by unfold NV.v;rw[m1];exact Fw _ _ _⟩
theorem eH(hA:AtW X w0 I lab fz H w)(ht:H t=none){z:List C}(hk:H k=some (.vec u z es))(hi:inP p z es)(hj:Et p z es=some (.ov z' es'))(hat:AtP (hp w) p (I k).b z es y):
  ∃lab' nv,nv.mp=false/\nv.v=y/\AtW X w0 (λn=>if n=t then nv else I n) lab' fz (upd (upd H k (.vec (u+1) z (He p z es .any))) t (.vec 0 z' es')) w/\
   PresB t (hp w) (hp w) fz fz I (λn=>if n=t then nv else I n) H (upd (upd H k (.vec (u+1) z (He p z es .any))) t (.vec 0 z' es')):=by
 classical
 have hkt:k≠t:=by rintro rfl;rw[ht]at hk;cases hk
 obtain⟨hbv,hbase⟩:=Ig hA hk
 have hden:=Jg p hbv hi hj (by rw[hbase];exact hat)
 obtain⟨hvec,hcl⟩:=Ik hden
 let π:List Nat:=[k]++flatP p
 let lab':Lab:=λc=>match lab c with
  |some ρ=>if π <+: ρ then some (t::ρ.drop π.length) else some ρ
  |none=>none
 obtain⟨pr1,pr2⟩:=hA.priv ht
 have hlk:∀c ρ,lab c=some (π++ρ)->lab' c=some ([t]++ρ):=by grind
 have hlo:∀c ρ,lab c=some ρ->¬(π <+: ρ)->lab' c=some ρ:=by intro c ρ hc h;simp only[lab',hc];rw[if_neg h]
 have hsome:∀c ρ,lab' c=some ρ->∃ρ',lab c=some ρ':=by grind
 have hz:∀b,fz b->fz b/\hp w b=hp w b:=λb hb=>⟨hb,rfl⟩
 have nmsub:∀(i2 j2:Nat) (r2:List C) (c2:C),(He p z es .any)[i2]?=some r2->r2[j2]?=some c2->∀n∈c2.names,(H n).isSome=true:=by
  intro i2 j2 r2 c2 h1 h2 n hn
  rcases HR p h1 h2 n hn with h|⟨r,hr,c,hc,h⟩
  .cases h
  .exact hA.wf k _ hk n (mem_flatMap.2 ⟨r,hr,mem_flatMap.2 ⟨c,hc,h⟩⟩)
 let H1:=upd H k (.vec (u+1) z (He p z es .any))
 have hotherl:∀k2,k2≠k->∀c ρ,lab c=some ([k2]++ρ)->lab' c=some ([k2]++ρ):=by grind
 have hA1:AtW X w0 I lab' fz H1 w:=by
  refine⟨λk2 ch h=>?_,λk2 ch h=>?_,λc ρ hc=>?_,λc hc=>⟨(hA.fzl c hc).1,by have:=(hA.fzl c hc).2;simp[lab',this]⟩,hA.fzo,hA.kept,λp hp'=>⟨?_,(hA.fix p hp').2⟩⟩
  .by_cases e:k2=k
   .subst e
    rw[show H1 k2=_ from BM _ _ _]at h;simp only[jS]at h;subst h
    obtain⟨m1,m2,m3⟩:=hA.h k2 _ hk
    refine⟨m1,m2,Uy hz p m3 hi hj (by rw[hbase];exact hat) (λb ρ hb hne=>⟨hlo b _ hb ?_,rfl⟩) (λ_ _ _ _ _ _ _ _=>rfl) (.any _ _ (Jt hden)) rfl⟩
    rintro ⟨σ,hσ⟩
    exact hne ⟨σ,by simpa [π] using hσ⟩
   .rw[show H1 k2=H k2 from Bm _ _ e]at h
    exact Lw hA h hz (λ_ _=>rfl) λc ρ hc=>⟨hotherl k2 e c ρ hc,rfl⟩
  .have hd1:∀n,(H n).isSome=true->(H1 n).isSome=true:=λn hn=>Bc (l:=[n]) (by intro q hq;simp at hq;subst hq;exact hn) k _ n (by simp)
   by_cases e:k2=k
   .subst e
    rw[show H1 k2=_ from BM _ _ _]at h;simp only[jS]at h;subst h
    intro n hn
    obtain⟨r,hr1,hn⟩:=mem_flatMap.1 hn
    obtain⟨c,hc1,hn⟩:=mem_flatMap.1 hn
    obtain⟨i2,hi2⟩:=mem_iff_getElem?.1 hr1
    obtain⟨j2,hj2⟩:=mem_iff_getElem?.1 hc1
    exact hd1 n (nmsub i2 j2 r c hi2 hj2 n hn)
   .rw[show H1 k2=H k2 from Bm _ _ e]at h
    intro n hn
    exact hd1 n (hA.wf k2 ch h n hn)
  .obtain⟨ρ',h⟩:=hsome c ρ hc;exact hA.own c ρ' h
  .exact Bc (l:=[p.1]) (by intro q hq;simp at hq;subst hq;exact(hA.fix p hp').1) k _ p.1 (by simp)
 have hp1:PresB t (hp w) (hp w) fz fz I I H H1:=by
  refine⟨hz,λ_ _ _=>rfl,λn _ hn=>Bc (l:=[n]) (by intro q hq;simp at hq;subst hq;exact hn) k _ n (by simp),?_⟩
  intro n u2 p2 x hnt hn hv
  by_cases e:n=k
  .subst e;exact L1 hA hk (BM _ _ _) (by omega) hv
  .exact kF
 have ht1:H1 t=none:=by rw[show H1 t=H t from Bm _ _ (Ne.symm hkt)];exact ht
 obtain⟨q1,q2⟩:=hA1.priv ht1
 have hnv:∃nv:NV,nv.mp=false/\nv.s=z'.length/\nv.v=y:=by
  rcases hvec with⟨_,rfl⟩|⟨b2,off2,cap2,arr2,T2,rfl,_⟩
  .exact⟨⟨none,0,0,z'.length,false⟩,rfl,rfl,rfl⟩
  .exact⟨⟨some (b2,off2),es'.length,cap2,z'.length,false⟩,rfl,rfl,rfl⟩
 obtain⟨nv,n1,n2,n3⟩:=hnv
 have c4:EY (hp w) fz lab' (λn=>if n=t then nv else I n) [t] z' es' nv.v:=by
  rw[n3]
  exact IZ hz hvec (λb ρ hb=>⟨hlk b ρ hb,rfl⟩) λi j cs c g1 g2 n hn=>by rw[hcl i j cs c g1 g2]at hn;cases hn
 obtain⟨r1,r2⟩:=KH (lab':=lab') hA1 q1 q2 nv n1 z' es' n2 (λ_ _=>rfl) (λ_ _ _ _ _ b ρ hb=>⟨hb,rfl⟩) hA1.own (λb hb=>⟨(hA1.fzl b hb).1,(hA1.fzl b hb).2⟩) hA.kept c4
  (λi j cs c g1 g2 n hn=>by rw[hcl i j cs c g1 g2]at hn;cases hn)
 exact⟨lab',nv,n1,n3,r1,hp1.comp r2⟩
theorem Uz(hA:AtW X w0 I lab fz H w){z:List C}(hk:H k=some (.vec u z es)){ρ0:List Nat}(hb:lab b=some (k::ρ0))
  (hs:w'.heap.size=w.heap.size) (h1:w'.os=w.os) (h2:w'.tape=w.tape) (h3:w'.output=w.output) (hne:∀c,c≠b->w'.heap[c]?=w.heap[c]?)
  (hv:EY (hp w') fz lab I [k] z es' (I k).v) (hn:∀(i j:Nat) (cs:List C) (c:C),es'[i]?=some cs->cs[j]?=some c->Dom H c.names) (x:Value) :
  I6 X w0 w I lab fz H none [(k,.vec (u+1) z es')] x w':=by
 have hz:∀c,fz c->fz c/\hp w' c=hp w c:=λc hc=>⟨hc,hne c (by rintro rfl;have:=(hA.fzl c hc).2;rw[hb]at this;cases this)⟩
 have hl:∀k2,k2≠k->∀c ρ,lab c=some ([k2]++ρ)->lab c=some ([k2]++ρ)/\hp w' c=hp w c:=by grind
 have hd:∀l,Dom H l->Dom (updH H [(k,.vec (u+1) z es')]) l:=λl hl=>GT _ hl
 have hself:updH H [(k,.vec (u+1) z es')] k=some (.vec (u+1) z es'):=by simp[updH,upd]
 have hoth:∀k2,k2≠k->updH H [(k,.vec (u+1) z es')] k2=H k2:=by intro k2 h;simp[updH,upd,h]
 obtain⟨m1,m2,_⟩:=hA.h k _ hk
 refine⟨I,lab,fz,⟨?_,?_,?_,?_,hA.fzo,?_,?_⟩,(λs hs=>by cases hs),hz,λ_ _=>rfl,?_⟩
 .intro k2 ch h
  by_cases e:k2=k
  .subst e
   rw[hself]at h;simp only[jS]at h;subst h
   exact⟨m1,m2,hv⟩
  .rw[hoth k2 e]at h
   exact Lw hA h hz (λ_ _=>rfl) (hl k2 e)
 .intro k2 ch h
  by_cases e:k2=k
  .subst e
   rw[hself]at h;simp only[jS]at h;subst h
   exact mc
  .rw[hoth k2 e]at h
   exact hd _ (hA.wf k2 ch h)
 .intro c π hc;rw[hs];exact hA.own c π hc
 .intro c hc;rw[hs];exact hA.fzl c hc
 .refine⟨h1.trans hA.kept.os,h2.trans hA.kept.tape,h3.trans hA.kept.output,by rw[hs];exact hA.kept.size,λc hc hm=>?_⟩
  rw[<- hA.kept.block c hc hm]
  refine hne c ?_
  rintro rfl
  rcases (hA.own c _ hb).2 with h|h
  .omega
  .exact hm h
 .exact AAd
 .intro k2 u2 p y hk2 hv2
  by_cases e:k2=k
  .subst e;exact L1 hA hk hself (by omega) hv2
  .exact Fg hA (hoth k2 e) rfl (λc ρ hc=>(hl k2 e c ρ hc).2) hv2
end
open Go.RowKit
theorem A0X(h:H6 x=true):x.oneCell'=true:=by cases x<;>first|rfl|(simp[H6]at h)
theorem H7(b off n:Nat):(⟨b,off,none⟩:Addr).add n=⟨b,off+n,none⟩:=by
 unfold Addr.add
 split
 .simp_all
 rfl
theorem Il(b:Nat)(T:TypeId)(m:Nat×Nat):∀(vs:List Value) (o:Nat) (w:World) (arr:Array Value),w.heap[b]?=some (.cells arr T m)->o+vs.length<=arr.size->
  ∃arr',(w.setCells b o vs).heap[b]?=some (.cells arr' T m)/\arr'.size=arr.size/\(∀i,arr'[i]?=if o<=i/\i<o+vs.length then vs[i-o]? else arr[i]?)/\
   (w.setCells b o vs).heap.size=w.heap.size/\(w.setCells b o vs).os=w.os/\(w.setCells b o vs).tape=w.tape/\(w.setCells b o vs).output=w.output/\∀c,c≠b->(w.setCells b o vs).heap[c]?=w.heap[c]?
 |[],o,w,arr,h,_=>⟨arr,h,rfl,λi=>by rw[if_neg (by rintro ⟨h1,h2⟩;simp only[List.length_nil]at h2;omega)],rfl,rfl,rfl,rfl,λ_ _=>rfl⟩
 |v::r,o,w,arr,h,hl=>by
  simp only[List.length_cons]at hl
  have h1:(w.setCell ⟨b,o,none⟩ v).heap[b]?=some (.cells (arr.setIfInBounds o v) T m):=by
   simp[World.setCell,Array.getElem?_modify,h]
  obtain⟨arr',g1,g2,g3,g4,g5,g6,g7,g8⟩:=Il b T m r (o+1) (w.setCell ⟨b,o,none⟩ v) _ h1 (by simp;omega)
  refine⟨arr',g1,by simpa using g2,λi=>?_,?_,g5,g6,g7,λc hc=>?_⟩
  .rw[g3]
   by_cases e:i=o
   .grind
   grind
  .rw[World.setCells,g4];simp[World.setCell]
  rw[World.setCells,g8 c hc];exact Below.heap_setCell _ _ _ _ hc
section
variable {P:Program}{X:Ctx}{w0 w:World}{I:Nm}{lab:Lab}{fz:Nat->Prop}{H:Hp}
theorem bA{h:Bf}{fz:Nat->Prop}{lab:Lab}{I:Nm}{d:D}(r:Rd h fz d y):Den h fz lab I π (oD d) y:=by
 cases r with
 |v x h1=>exact .v _ _ h1
 |nil z a cap h0=>exact .d _ _ _ (.nil z a cap h0)
 |sl=>rename_i z es b off cap arr T m val hz hb hcap hl hc hr;exact .d _ _ _ (.sl z es b off cap arr T m val hz hb hcap hl hc hr)
 |pnil=>exact .d _ _ _ .pnil
 |mp es b entries clock hz hb hl hk=>exact .d _ _ _ (.mp es b entries clock hz hb hl hk)
 |pt=>rename_i cs b off arr T m val hz hb hc hr;exact .d _ _ _ (.pt cs b off arr T m val hz hb hc hr)
theorem Nr(d:D):(oD d).stor=true:=by cases d<;>rfl
theorem RT(d:D):(oD d).names=[]:=by cases d<;>rfl
theorem PE{n:Nat}(hsz:off+n*s<=arr.size):((arr.toList.drop off).take (n*s)).length=n*s/\∀i j,i<n->j<s->((arr.toList.drop off).take (n*s))[i*s+j]?=arr[off+i*s+j]?:=by
 constructor
 .simp;omega
 intro i j hi hj
 have:i*s+j<n*s:=by
  have:(i+1)*s<=n*s:=mul_le_mul_right s hi
  rw[add_mul]at this;omega
 rw[getElem?_take,if_pos this,getElem?_drop,getElem?_toList]
 congr 1
 omega
theorem WE(hA:AtW X w0 I lab fz H w){b:C}(hb:SC (hp w) fz lab I H b y){z:List C}{f:List Nat}(hr:Jf H z b=some (rows,f)){U e:TypeId}(hU:P.underlying U=some (.slice e))(hs:0<s)
  (hq:∀q,KC H b=some q->q=s) (hst:BS rows) :
  ∃news,Src P s U y rows.length news w/\∀(i:Nat) (r:List C),rows[i]?=some r->r.length=s/\∀(j:Nat) (c:C),r[j]?=some c->Dom H c.names/\∃v,news[i*s+j]?=some v/\Den (hp w) fz lab I [] c v:=by
 have key:∀(a:Addr) (n c:Nat) (arr:Array Value) (T:TypeId) (m:Nat×Nat),a.spot=none->(hp w) a.block=some (.cells arr T m)->a.off+n*s<=arr.size->(∀j,j<n*s->∃v,arr[a.off+j]?=some v/\H6 v=true)->
   Src P s U (.slice (some a) n c) n ((arr.toList.drop a.off).take (n*s)) w:=by
  intro a n c arr T m hsp hh hsz hone
  obtain⟨g1,g2⟩:=PE (s:=s) (n:=n) hsz
  obtain⟨ab,ao,asp⟩:=a
  simp only at hsp;subst hsp
  refine Src.ofSlice w hU _ n c _ g1 ?_ ?_
  .intro j u hj
   have hjl:j<n*s:=by have:=(List.getElem?_eq_some_iff.1 hj).1;omega
   rw[H7]
   have hh':w.heap[ab]?=some (.cells arr T m):=hh
   simp only[World.cell?,hh',isSome_none,jB,if_false]
   rw[getElem?_take,if_pos hjl,getElem?_drop,getElem?_toList]at hj
   exact hj
  .intro u hu
   obtain⟨j,hj⟩:=mem_iff_getElem?.1 hu
   have hjl:j<n*s:=by have:=(List.getElem?_eq_some_iff.1 hj).1;omega
   rw[getElem?_take,if_pos hjl,getElem?_drop,getElem?_toList]at hj
   obtain⟨v,g3,g4⟩:=hone j hjl
   rw[g3]at hj
   simp only[jS]at hj
   subst hj
   exact A0X g4
 have hdiv:∀n j,j<n*s->j / s<n/\j % s<s/\j / s*s+j % s=j:=by
  intro n j hj
  refine⟨Nat.div_lt_of_lt_mul (by rwa [Nat.mul_comm]),Nat.mod_lt _ hs,?_⟩
  rw[Nat.mul_comm];exact Nat.div_add_mod j s
 have dcase:∀(z':List D) (es:List (List D)),z'.length=s->Rd (hp w) fz (.sl z' es) y->rows=es.map (λr=>r.map oD)->
   ∃news,Src P s U y rows.length news w/\∀(i:Nat) (r:List C),rows[i]?=some r->r.length=s/\∀(j:Nat) (c:C),r[j]?=some c->Dom H c.names/\∃v,news[i*s+j]?=some v/\Den (hp w) fz lab I [] c v:=by
  intro z' es hz' hrd hrows
  subst hrows
  cases hrd with
  |nil _ a cap h0=>
   cases a with
   |none=>
    obtain rfl:=h0 rfl
    exact⟨[],Src.ofNil w hU 0,by simp⟩
   |some a=>exact⟨[],Src.ofSlice w hU a 0 cap [] (by simp) (by simp) (by simp),by simp⟩
  |sl _ _ bl off cap arr T m val hfz hh hcap hl hc hrr=>
   have hone:∀j,j<es.length*s->∃v,arr[off+j]?=some v/\H6 v=true:=by
    intro j hj
    obtain⟨d1,d2,d3⟩:=hdiv es.length j hj
    obtain⟨cs,hcs⟩:∃cs,es[j / s]?=some cs:=⟨_,getElem?_eq_getElem d1⟩
    have hlen:=hl _ cs hcs
    obtain⟨d,hd⟩:∃d,cs[j % s]?=some d:=⟨_,getElem?_eq_getElem (by omega)⟩
    have:=hc _ _ cs d hcs hd
    rw[hz',Nat.add_assoc,d3]at this
    exact⟨_,this,au (hrr _ _ cs d hcs hd)⟩
   by_cases he:es=[]
   .subst he
    exact⟨[],Src.ofSlice w hU ⟨bl,off,none⟩ 0 cap [] (by simp) (by simp) (by simp),by simp⟩
   have hpos:0<es.length:=List.length_pos_iff.2 he
   have hsz:off+es.length*s<=arr.size:=by
    have h0:0<es.length*s:=Nat.mul_pos hpos hs
    obtain⟨v,hv,_⟩:=hone (es.length*s-1) (by omega)
    have:=(Array.getElem?_eq_some_iff.1 hv).1
    omega
   obtain⟨g1,g2⟩:=PE (s:=s) (n:=es.length) hsz
   refine⟨(arr.toList.drop off).take (es.length*s),?_,?_⟩
   .have:=key ⟨bl,off,none⟩ es.length cap arr T m rfl hh hsz hone
    simpa using this
   .intro i r hr
    simp only[getElem?_map,map_eq_some_iff]at hr
    obtain⟨cs,hcs,rfl⟩:=hr
    have hil:i<es.length:=(List.getElem?_eq_some_iff.1 hcs).1
    have hlen:=hl i cs hcs
    refine⟨by simp[hlen,hz'],λj c hj=>?_⟩
    simp only[getElem?_map,map_eq_some_iff]at hj
    obtain⟨d,hd,rfl⟩:=hj
    have hjl:j<s:=by have:=(List.getElem?_eq_some_iff.1 hd).1;omega
    refine⟨(by rw[RT];intro n hn;cases hn),_,?_,bA (hrr i j cs d hcs hd)⟩
    rw[g2 i j hil hjl,<- hz']
    exact hc i j cs d hcs hd
 unfold Jf at hr
 split at hr
 .rename_i z' es
  simp only[jS,jP]at hr
  obtain⟨hrows,_⟩:=hr
  have hd:=hb.2
  cases hd with
  |d _ _ _ r=>exact dcase z' es (hq _ rfl) r hrows.symm
 .rename_i z' es
  simp only[jS,jP]at hr
  obtain⟨hrows,_⟩:=hr
  have hd:=hb.2
  cases hd with
  |df _ _ _ a r=>exact dcase z' es (hq _ rfl) r hrows.symm
 .simp only[jS,jP]at hr
  obtain⟨rfl,_⟩:=hr
  have hd:=hb.2
  cases hd with
  |v=>exact⟨[],Src.ofNil w hU 0,by simp⟩
 .rename_i k
  split at hr
  .rename_i u z' es hk
   simp only[jS,jP]at hr
   obtain⟨rfl,_⟩:=hr
   have hz':z'.length=s:=hq _ (by simp[KC,hk])
   have hd:=hb.2
   cases hd with
   |s _ k=>
    obtain⟨m1,m2,m3⟩:=hA.h k _ hk
    rcases m3 with⟨rfl,hx⟩|⟨bl,off,cap,arr,T,hx,hlb,hh,hsz,hcap,hc⟩
    .rw[hx];exact⟨[],Src.ofNil w hU 0,by simp⟩
    .rw[hx]
     have hsz':off+es.length*s<=arr.size:=by
      have:es.length*s<=cap*s:=mul_le_mul_right s hcap
      have hsz:=hsz.1
      rw[hz']at hsz;omega
     have hone:∀j,j<es.length*s->∃v,arr[off+j]?=some v/\H6 v=true:=by
      intro j hj
      obtain⟨d1,d2,d3⟩:=hdiv es.length j hj
      obtain⟨cs,hcs⟩:∃cs,es[j / s]?=some cs:=⟨_,getElem?_eq_getElem d1⟩
      obtain⟨hlen,hcc⟩:=hc _ cs hcs
      obtain⟨d,hd⟩:∃d,cs[j % s]?=some d:=⟨_,getElem?_eq_getElem (by omega)⟩
      obtain⟨v,g1,g2⟩:=hcc _ d hd
      rw[hz',Nat.add_assoc,d3]at g1
      exact⟨v,g1,Jt g2⟩
     obtain⟨g1,g2⟩:=PE (s:=s) (n:=es.length) hsz'
     refine⟨(arr.toList.drop off).take (es.length*s),key ⟨bl,off,none⟩ es.length cap arr T (0,0) rfl hh hsz' hone,?_⟩
     intro i r hi
     have hil:i<es.length:=(List.getElem?_eq_some_iff.1 hi).1
     obtain⟨hlen,hcc⟩:=hc i r hi
     refine⟨hlen.trans hz',λj c hj=>?_⟩
     obtain⟨v,v1,v2⟩:=hcc j c hj
     have hjl:j<s:=by have:=(List.getElem?_eq_some_iff.1 hj).1;omega
     refine⟨λn hn=>hA.wf k _ hk n (mem_flatMap.2 ⟨r,mem_of_getElem? hi,mem_flatMap.2 ⟨c,mem_of_getElem? hj,hn⟩⟩),v,?_,?_⟩
     .grind
     .exact DT (λb hb=>⟨hb,rfl⟩) (IC (hst r (mem_of_getElem? hi) c (mem_of_getElem? hj))) v2 λ_ _=>rfl
  .cases hr
 .cases hr
theorem vS(hA:AtW X w0 I lab fz H w){z:List C}(ht:H t=some (.vec u z es))(hpriv:∀k ch,k≠t->H k=some ch->t∉chNames ch)(hpt:t∉chNames (.vec u z es))(hF:∀p∈X.F,p.1≠t)
  {T U ty e:TypeId} {i:TypeInfo} {zv:Value} (hT:P.underlying T=some (.slice e)) (hi:P.info? e=some i) (hzv:i.zero=some zv) (hzl:zv.cells.size=i.size) (hs:z.length=i.size) (hs0:0<i.size)
  {y:Value} {rows:List (List C)} {news:List Value} (hsrc:Src P i.size U y rows.length news w) (hzt:zT z=none∨zT z=some e) (hb:(es.length+rows.length)*i.bytes<=140737488355328) (h63:es.length+rows.length<=9223372036854775807)
  (hrows:∀(i2:Nat) (r:List C),rows[i2]?=some r->r.length=i.size/\∀(j:Nat) (c:C),r[j]?=some c->c.stor=true/\Dom H c.names/\t∉c.names/\∃v,news[i2*i.size+j]?=some v/\Den (hp w) fz lab I [] c v) :
  ∃nv lab' w',nv.mp=false/\(Builtin.append_ #[T,U] ty #[(I t).v,y]).run P w= .ok nv.v w'/\AtW X w0 (λn=>if n=t then nv else I n) lab' fz (upd H t (.vec 0 z (es++rows))) w'/\
   PresB t (hp w) (hp w') fz fz I (λn=>if n=t then nv else I n) H (upd H t (.vec 0 z (es++rows))):=by
 obtain⟨m1,m2,m3⟩:=hA.h t _ ht
 have hI2:∀(nv:NV) (c:C),t∉c.names->∀n∈c.names,(if n=t then nv else I n)=I n:=by grind
 have hes:∀(i2 j:Nat) (r:List C) (c:C),es[i2]?=some r->r[j]?=some c->t∉c.names/\Dom H c.names:=by
  intro i2 j r c g1 g2
  exact⟨λh=>hpt (mem_flatMap.2 ⟨r,mem_of_getElem? g1,mem_flatMap.2 ⟨c,mem_of_getElem? g2,h⟩⟩),
   λn hn=>hA.wf t _ ht n (mem_flatMap.2 ⟨r,mem_of_getElem? g1,mem_flatMap.2 ⟨c,mem_of_getElem? g2,hn⟩⟩)⟩
 have hnm:∀(i2 j:Nat) (r:List C) (c:C),(es++rows)[i2]?=some r->r[j]?=some c->Dom H c.names:=by
  intro i2 j r c g1 g2
  rw[getElem?_append]at g1
  split at g1
  .grind
  .grind
 have hnl:=hsrc.newsLen
 have hold:∃base off cap arr,(I t).v=slV base es.length cap/\(base=none->es=[]/\cap=0)/\(∀b,base=some b->b.2=off/\lab b.1=some [t]/\(∃T',hp w b.1=some (.cells arr T' (0,0))/\zOK z T' off)/\off+cap*z.length<=arr.size/\es.length<=cap)/\
   ∀(i2:Nat) (cs:List C),es[i2]?=some cs->cs.length=z.length/\∀(j:Nat) (c:C),cs[j]?=some c->∃y,arr[off+i2*z.length+j]?=some y/\Den (hp w) fz lab I ([t]++[i2,j]) c y:=by
  rcases m3 with⟨rfl,hx⟩|⟨bl,off,cap,arr,T',hx,hlb,hh,hsz,hcap,hc⟩
  .exact⟨none,0,0,#[],hx,(λ_=>⟨rfl,rfl⟩),(λb hb=>by cases hb),by simp⟩
  .exact⟨some (bl,off),off,cap,arr,hx,(λh=>by cases h),(λb hb=>by simp only[jS]at hb;subst hb;exact⟨rfl,hlb,⟨T',hh,hsz.2⟩,hsz.1,hcap⟩),hc⟩
 obtain⟨base,off,cap,arr,hx,hb0,hb1,hc⟩:=hold
 by_cases hroom:es.length+rows.length<=cap
 .
  cases base with
  |none=>
   obtain⟨rfl,rfl⟩:=hb0 rfl
   have hr0:rows=[]:=by grind
   subst hr0
   have hn0:news=[]:=by
    have:news.length=0:=by simpa using hnl
    exact List.length_eq_zero_iff.1 this
   subst hn0
   have hset:=KH (lab':=lab) (w':=w) hA hpriv hF (I t) m1 z [] m2 (λ_ _=>rfl) (λk ch _ _ _ b ρ hb=>⟨hb,rfl⟩) hA.own hA.fzl hA.kept (.inl ⟨rfl,hx⟩) (by simp)
   refine⟨I t,lab,w,m1,?_,by simpa using hset.1,by simpa using hset.2⟩
   rw[hx]
   have hl:=hsrc.len w
   have hcl:=hsrc.cells
   simp only[List.length_nil]at hl hcl
   have hz0:Builtin.firstCells i.size 0 y=Builtin.firstCells i.size 0 y:=rfl
   rcases hsrc.kind with⟨e',hk⟩|hk<;>simp[slV,Builtin.append_,run_underlying hT,run_underlying hk,sizeOf,typeInfo,hi,hl,hcl]
  |some bo=>
   obtain⟨bl,bo2⟩:=bo
   obtain⟨e1,hlb,⟨T',hh,hzo⟩,hsz,hcap⟩:=hb1 _ rfl
   simp only at e1 hlb hh
   subst e1
   have hhw:w.heap[bl]?=some (.cells arr T' (0,0)):=hh
   rw[hs]at hsz
   have hfit:bo2+es.length*i.size+news.length<=arr.size:=by
    rw[hnl]
    have:(es.length+rows.length)*i.size<=cap*i.size:=mul_le_mul_right _ hroom
    rw[add_mul]at this
    omega
   obtain⟨arr',g1,g2,g3,g4,g5,g6,g7,g8⟩:=Il bl T' (0,0) news (bo2+es.length*i.size) w arr hhw hfit
   have hrun:=run_append_room_src (P:=P) w T U ty e i hT hi bl bo2 es.length cap y rows.length news hsrc hroom
    (λj hj=>by simp only[World.cell?,hhw,isSome_none,jB,if_false];rw[Array.getElem?_eq_getElem (by omega)];rfl)
    (λj hj=>by simp[World.frozen?,hhw])
   let nv:NV:=⟨some (bl,bo2),es.length+rows.length,cap,z.length,false⟩
   refine⟨nv,lab,w.setCells bl (bo2+es.length*i.size) news,rfl,by rw[hx];exact hrun,?_⟩
   have hzb:∀b,fz b->hp (w.setCells bl (bo2+es.length*i.size) news) b=hp w b:=λb hb=>g8 b (by rintro rfl;have:=(hA.fzl b hb).2;rw[hlb]at this;cases this)
   refine KH hA hpriv hF nv rfl z (es++rows) rfl hzb ?_ (λb π hb=>by rw[g4];exact hA.own b π hb) (λb hb=>by rw[g4];exact hA.fzl b hb) ?_ ?_ hnm
   .intro k ch hk _ _ b ρ hb
    refine⟨hb,g8 b ?_⟩
    rintro rfl
    rw[hlb]at hb
    simp at hb
    exact hk hb.1.symm
   .refine⟨g5.trans hA.kept.os,g6.trans hA.kept.tape,g7.trans hA.kept.output,by rw[g4];exact hA.kept.size,λc hc hm=>?_⟩
    rw[<- hA.kept.block c hc hm]
    refine g8 c ?_
    rintro rfl
    rcases (hA.own c _ hlb).2 with h|h
    .omega
    .exact hm h
   .refine .inr ⟨bl,bo2,cap,arr',T',by simp[nv,NV.v],hlb,g1,⟨by rw[g2,hs];exact hsz,hzo⟩,by simpa using hroom,λi2 r hr=>?_⟩
    rw[getElem?_append]at hr
    split at hr
    .rename_i hlt
     obtain⟨q1,q2⟩:=hc i2 r hr
     refine⟨q1,λj c hj=>?_⟩
     obtain⟨v,v1,v2⟩:=q2 j c hj
     have hjl:j<z.length:=by have:=(List.getElem?_eq_some_iff.1 hj).1;omega
     refine⟨v,?_,Kb (λb hb=>⟨hb,hzb b hb⟩) v2 _ (λb ρ hb=>⟨hb,g8 b ?_⟩) (hI2 nv c (hes i2 j r c hr hj).1)⟩
     .rw[g3,if_neg ?_];· exact v1
      intro hh2
      have:(i2+1)*z.length<=es.length*z.length:=mul_le_mul_right _ hlt
      rw[add_mul,hs]at this
      rw[hs]at hjl hh2
      omega
     .rintro rfl;rw[hlb]at hb;simp at hb
    .rename_i hge
     obtain⟨q1,q2⟩:=hrows _ r hr
     refine⟨q1.trans hs.symm,λj c hj=>?_⟩
     obtain⟨c1,c2,c3,v,v1,v2⟩:=q2 j c hj
     refine⟨v,?_,DT (λb hb=>⟨hb,hzb b hb⟩) (IC c1) v2 (hI2 nv c c3)⟩
     have hjl:j<i.size:=by have:=(List.getElem?_eq_some_iff.1 hj).1;omega
     obtain⟨d,rfl⟩:∃d,i2=es.length+d:=⟨i2-es.length,by omega⟩
     rw[show es.length+d-es.length=d by omega]at v1 hr
     have hdl:d<rows.length:=(List.getElem?_eq_some_iff.1 hr).1
     have hd2:(d+1)*i.size<=rows.length*i.size:=mul_le_mul_right _ hdl
     rw[add_mul]at hd2
     rw[g3,hs,add_mul,if_pos (by rw[hnl];omega),<- v1]
     congr 1
     omega
 .
  have holds:∃olds:List Value,olds.length=es.length*i.size/\(Builtin.firstCells i.size es.length (slV base es.length cap)).run P w.drew= .ok olds.toArray w.drew/\
    ∀i2 j,i2<es.length->j<i.size->olds[i2*i.size+j]?=arr[off+i2*i.size+j]?:=by
   cases base with
   |none=>
    obtain⟨rfl,rfl⟩:=hb0 rfl
    exact⟨[],by simp,run_firstCells_none w.drew i.size 0 0 0,by simp⟩
   |some bo=>
    obtain⟨bl,bo2⟩:=bo
    obtain⟨e1,hlb,⟨T',hh,hzo⟩,hsz,hcap⟩:=hb1 _ rfl
    simp only at e1 hlb hh
    subst e1
    have hhw:w.heap[bl]?=some (.cells arr T' (0,0)):=hh
    rw[hs]at hsz
    have hsz':bo2+es.length*i.size<=arr.size:=by
     have:es.length*i.size<=cap*i.size:=mul_le_mul_right _ hcap
     omega
    obtain⟨r1,r2⟩:=PE (s:=i.size) (n:=es.length) hsz'
    refine⟨_,r1,run_firstCells_some (P:=P) w.drew i.size es.length ⟨bl,bo2,none⟩ es.length cap _ r1 ?_,r2⟩
    intro j v hj
    have hjl:j<es.length*i.size:=by have:=(List.getElem?_eq_some_iff.1 hj).1;omega
    rw[H7]
    have hhd:w.drew.heap[bl]?=some (.cells arr T' (0,0)):=hhw
    simp only[World.cell?,hhd,isSome_none,jB,if_false]
    rw[getElem?_take,if_pos hjl,getElem?_drop,getElem?_toList]at hj
    exact hj
  obtain⟨olds,o1,o2,o3⟩:=holds
  have hg:cap<es.length+rows.length:=by omega
  have hrun:=run_append_grow_src (P:=P) w T U ty e i zv hT hi hzv (base.map λx:Nat×Nat=>(⟨x.1,x.2,none⟩:Addr)) es.length cap olds o2 y rows.length news hsrc hg (by omega) (growslice_fits hg hb)
  have hge:=grownCap_ge w (es.length+rows.length) cap e
  generalize grownCap w (es.length+rows.length) cap e=nc at*
  let nv:NV:=⟨some (w.heap.size,0),es.length+rows.length,nc,z.length,false⟩
  let lab':Lab:=λb=>if b=w.heap.size then some [t] else if lab b=some [t] then none else lab b
  let obj:Obj:=.cells ((olds++news).toArray++Builtin.zeroCells zv.cells (nc-(es.length+rows.length))) e
  have hsize:(w.drew.alloc obj).heap.size=w.heap.size+1:=by show (w.heap.push obj).size=_;simp
  have hlt:∀b,b≠w.heap.size->hp (w.drew.alloc obj) b=hp w b:=by
   intro b hb
   show (w.heap.push obj)[b]?=w.heap[b]?
   rw[getElem?_push]
   simp[hb]
  have hself:hp (w.drew.alloc obj) w.heap.size=some obj:=by
   show (w.heap.push obj)[w.heap.size]?=_
   rw[getElem?_push]
   simp
  have hzb:∀b,fz b->hp (w.drew.alloc obj) b=hp w b:=λb hb=>hlt b (by have:=(hA.fzl b hb).1;omega)
  have hlk:∀c ρ,lab c=some ρ->ρ≠[t]->lab' c=some ρ:=by
   intro c ρ hc hne
   have:c≠w.heap.size:=by have:=(hA.own c ρ hc).1;omega
   simp[lab',this,hc,hne]
  refine⟨nv,lab',w.drew.alloc obj,rfl,by rw[hx];exact hrun,?_⟩
  refine KH hA hpriv hF nv rfl z (es++rows) rfl hzb ?_ ?_ ?_ ?_ ?_ hnm
  .intro k ch hk _ _ b ρ hb
   refine⟨hlk b _ hb ?_,hlt b (by have:=(hA.own b _ hb).1;omega)⟩
   intro h;simp at h;exact hk h.1
  .intro b π hb
   simp only[lab']at hb
   split at hb
   .rename_i h;rw[hsize];exact⟨by omega,.inl (by have:=hA.kept.size;omega)⟩
   .split at hb
    .cases hb
    .have:=hA.own b π hb
     exact⟨by rw[hsize];omega,this.2⟩
  .intro b hb
   have:=hA.fzl b hb
   exact⟨by rw[hsize];omega,by simp[lab',show b≠w.heap.size by omega,this.2]⟩
  .refine⟨hA.kept.os,hA.kept.tape,hA.kept.output,by rw[hsize];have:=hA.kept.size;omega,λb hb hm=>?_⟩
   have hss:=hA.kept.size
   rw[<- hA.kept.block b hb hm]
   exact hlt b (by omega)
  .refine .inr ⟨w.heap.size,0,nc,_,e,by simp[nv,NV.v],by simp[lab'],hself,⟨?_,ak hzt⟩,by simpa using hge,λi2 r hr=>?_⟩
   .simp only[Array.size_append,List.size_toArray,List.length_append,size_zeroCells,hzl,o1,hnl,hs]
    have:(nc-(es.length+rows.length))*i.size+(es.length+rows.length)*i.size=nc*i.size:=by
     rw[<- add_mul];congr 1;omega
    rw[add_mul]at this
    omega
   .have hget:∀n,n<olds.length+news.length->((olds++news).toArray++Builtin.zeroCells zv.cells (nc-(es.length+rows.length)))[n]?=(olds++news)[n]?:=by
     intro n hn
     rw[Array.getElem?_append_left (by simpa using hn)]
     simp
    rw[getElem?_append]at hr
    split at hr
    .rename_i hlt2
     obtain⟨q1,q2⟩:=hc i2 r hr
     refine⟨q1,λj c hj=>?_⟩
     obtain⟨v,v1,v2⟩:=q2 j c hj
     have hjl:j<z.length:=by have:=(List.getElem?_eq_some_iff.1 hj).1;omega
     have hpos:i2*i.size+j<olds.length:=by
      have:(i2+1)*i.size<=es.length*i.size:=mul_le_mul_right _ hlt2
      rw[add_mul]at this
      omega
     refine⟨v,?_,Kb (λb hb=>⟨hb,hzb b hb⟩) v2 _ (λb ρ hb=>⟨hlk b _ hb (by simp),hlt b (by have:=(hA.own b _ hb).1;omega)⟩) (hI2 nv c (hes i2 j r c hr hj).1)⟩
     rw[Nat.zero_add,hs,hget _ (by omega),List.getElem?_append_left hpos,o3 i2 j hlt2 (by omega)]
     rw[hs]at v1;exact v1
    .rename_i hge2
     obtain⟨q1,q2⟩:=hrows _ r hr
     refine⟨q1.trans hs.symm,λj c hj=>?_⟩
     obtain⟨c1,c2,c3,v,v1,v2⟩:=q2 j c hj
     refine⟨v,?_,DT (λb hb=>⟨hb,hzb b hb⟩) (IC c1) v2 (hI2 nv c c3)⟩
     have hjl:j<i.size:=by have:=(List.getElem?_eq_some_iff.1 hj).1;omega
     obtain⟨d,rfl⟩:∃d,i2=es.length+d:=⟨i2-es.length,by omega⟩
     rw[show es.length+d-es.length=d by omega]at v1 hr
     have hdl:d<rows.length:=(List.getElem?_eq_some_iff.1 hr).1
     have hd2:(d+1)*i.size<=rows.length*i.size:=mul_le_mul_right _ hdl
     rw[add_mul]at hd2
     rw[Nat.zero_add,hs,add_mul,hget _ (by rw[o1,hnl];omega),List.getElem?_append_right (by omega),<- v1]
     congr 1
     omega
end
open Go.RowKit
mutual
def toD:C->Option D
 | .v x=>some (.v x)
 | .d x=>some x
 | .df z es=>some (.sl z es)
 | .dp cs=>some (.pt (some cs))
 | .ov z es=>match GD z,EZ es with
  |some z',some es'=>some (.sl z' es')
  |_,_=>none
 |_=>none
def GD:List C->Option (List D)
 |[]=>some []
 |c::r=>match toD c,GD r with
  |some d,some l=>some (d::l)
  |_,_=>none
def EZ:List (List C)->Option (List (List D))
 |[]=>some []
 |c::r=>match GD c,EZ r with
  |some d,some l=>some (d::l)
  |_,_=>none
end
theorem Ki:∀{l:List C} {l':List D},GD l=some l'->l'.length=l.length/\∀(j:Nat) (d:D),l'[j]?=some d->∃c,l[j]?=some c/\toD c=some d
 |[],l',h=>by simp only[GD,jS]at h;subst h;simp
 |c::r,l',h=>by
  simp only[GD]at h
  split at h
  .rename_i d l hd hl
   simp only[jS]at h
   subst h
   obtain⟨h1,h2⟩:=Ki hl
   refine⟨by simp[h1],λj e hj=>?_⟩
   exact AAU
  cases h
theorem Sg:∀{l:List (List C)} {l':List (List D)},EZ l=some l'->l'.length=l.length/\∀(j:Nat) (d:List D),l'[j]?=some d->∃c,l[j]?=some c/\GD c=some d
 |[],l',h=>by simp only[EZ,jS]at h;subst h;simp
 |c::r,l',h=>by
  simp only[EZ]at h
  split at h
  .rename_i d l hd hl
   simp only[jS]at h
   subst h
   obtain⟨h1,h2⟩:=Sg hl
   refine⟨by simp[h1],λj e hj=>?_⟩
   exact AAU
  cases h
theorem kw{c:C}{d:D}(h:toD c=some d):c.names=[]:=by
 cases c<;>first|rfl|(simp[toD]at h)
theorem A0Y{h:Bf}{fz:Nat->Prop}{lab:Lab}{I:Nm}{c:C}(r:Den h fz lab I π c x)(hz:∀b,fz b->fz' b):
  ∀{d:D},toD c=some d->(∀b ρ,lab b=some (π++ρ)->fz' b)->Rd h fz' d x:=by
 have hz':∀b,fz b->fz' b/\h b=h b:=λb hb=>⟨hz b hb,rfl⟩
 induction r with
 |any π x h1=>intro d hd;simp[toD]at hd
 |v π x h1=>intro d hd _;simp only[toD,jS]at hd;subst hd;exact .v x h1
 |p π k i j=>intro d hd;simp[toD]at hd
 |s π k=>intro d hd;simp[toD]at hd
 |d π x y r=>intro d hd _;simp only[toD,jS]at hd;subst hd;exact Ff hz' r
 |df π z es a r=>intro d hd _;simp only[toD,jS]at hd;subst hd;exact Ff hz' r
 |dp π cs y r=>intro d hd _;simp only[toD,jS]at hd;subst hd;exact Ff hz' r
 |nil π z=>
  intro d hd _
  simp only[toD,EZ]at hd
  split at hd
  .rename_i z' es' h1 h2
   simp only[jS]at hd h2;subst hd;subst h2;exact .nil z' none 0 (λ_=>rfl)
  .cases hd
 |ov π z es b off cap arr T val hb hh hsz hcap hl hn hc _ ih=>
  intro d hd hlab
  simp only[toD]at hd
  split at hd
  .rename_i z' es' h1 h2
   simp only[jS]at hd
   subst hd
   obtain⟨g1,g2⟩:=Ki h1
   obtain⟨g3,g4⟩:=Sg h2
   rw[<- g3]
   refine .sl z' es' b off cap arr T (0,0) val (hlab b [] (by simpa using hb)) hh (by omega) ?_ ?_ ?_
   .intro i cs hi
    obtain⟨c,k1,k2⟩:=g4 i cs hi
    rw[(Ki k2).1,g1];exact hl i c k1
   .intro i j cs d hi hj
    obtain⟨c,k1,k2⟩:=g4 i cs hi
    obtain⟨e,k3,k4⟩:=(Ki k2).2 j d hj
    rw[g1];exact hc i j c e k1 k3
   .intro i j cs d hi hj
    obtain⟨c,k1,k2⟩:=g4 i cs hi
    obtain⟨e,k3,k4⟩:=(Ki k2).2 j d hj
    refine ih i j c e k1 k3 k4 λb' ρ hb'=>hlab b' ([i,j]++ρ) ?_
    rw[<- append_assoc];exact hb'
  .cases hd
 |fn π f caps vals hv h1=>intro d hd;simp[toD]at hd
structure Spec(P:Program)(X:Ctx)(w0:World) where
 f:FuncId
 call:∀(args:Array Value) (w:World),(callFunc f args).run P w= .ok (.enter f args) w
 fn:Nat->List SV->Hp->Res
 ok:∀(w:World) (I:Nm) (lab:Lab) (fz:Nat->Prop) (H:Hp) (t:Nat) (args:List SV) (xs:List Value) (c:Prop) (e:Eff) (fp:List Nat),AtW X w0 I lab fz H w->H t=none->fn t args H=some (c,e,fp)->c->(∀v∈args,Dom H v.names)->
  args.length=xs.length->(∀(j:Nat) (v:SV) (x:Value),args[j]?=some v->xs[j]?=some x->Ap (hp w) fz lab I H v x)->
  Calls P f xs.toArray w (λen w'=>(∃x,en= .returned x/\I6 X w0 w I lab fz H (some e.val) e.upd x w')∨∃ch,en= .panicked ch/\Kh X w0 ch w')
 dom:∀(t:Nat) (args:List SV) (H:Hp) (c:Prop) (e:Eff) (fp:List Nat),H t=none->c->fn t args H=some (c,e,fp)->(∀v∈args,Dom H v.names)->Dom (updH H e.upd) e.val.names/\(∀p∈e.upd,p.1∈fp)
 loc:∀(t:Nat) (args:List SV) (H H':Hp) (c:Prop) (e:Eff) (fp:List Nat),fn t args H=some (c,e,fp)->(∀k∈fp,H' k=H k)->fn t args H'=some (c,e,fp)
def U0{P:Program}{X:Ctx}{w0:World}(f:FuncId):List (Spec P X w0)->Option (Spec P X w0)
 |[]=>none
 |s::r=>if s.f=f then some s else U0 f r
def Im{P:Program}{X:Ctx}{w0:World}(sp:List (Spec P X w0))(E:Env)(H:Hp)(f:FuncId)(args:List Operand)(more:List SV)(t:Nat):Res:=
 match U0 f sp,GN E args with
 |some s,some vs=>(s.fn t (vs++more) H).map λr=>(FS E args/\r.1,r.2)
 |_,_=>none
def fnSV:Option SV->Option (FuncId×List SV)
 |some (.one (.v (.func (.func f) a b)))=>if a.size=0/\b.size=0 then some (f,[]) else none
 |some (.one (.fn f caps))=>if caps.all Tz=true then some (f,caps.map .one) else none
 |_=>none
def K0{P:Program}{X:Ctx}{w0:World}(sp:List (Spec P X w0))(E:Env)(H:Hp)(s:Nat)(args:List Operand)(t:Nat):Res:=
 match fnSV (rdv E (.tmp s)) with
 |some (f,caps)=>(Im sp E H f args caps t).map λr=>(rdg E (.tmp s)=true/\r.1,r.2)
 |none=>none
def rR(P:Program)(T:TypeId):Bool:=P.concrete T
def Ns(P:Program)(E:Env)(T:TypeId)(x:Operand):Res:=
 match (rdv E x).bind OU,rR P T with
 |some v,true=>some (rdg E x=true,⟨.one (.v (.iface T v)),[]⟩,[])
 |_,_=>none
theorem bB:∀{r r':List C},wkR r r'->r'.length=r.length/\∀(j:Nat) (c:C),r'[j]?=some c->r[j]?=some c∨(c= .any/\∃c0,r[j]?=some c0)
 |[],[],_=>⟨rfl,λj c h=>by simp at h⟩
 |c0::r,c1::r',h=>by
  obtain⟨h1,h2⟩:=bB h.2
  refine⟨by simp[h1],λj c hj=>?_⟩
  cases j with
  |zero=>
   simp only[getElem?_cons_zero,jS]at hj ⊢
   subst hj
   rcases h.1 with e|e
   .simp_all
   simp_all
  |succ j=>
  simp only[getElem?_cons_succ]at hj ⊢
  exact h2 j c hj
 |[],_::_,h=>h.elim
 |_::_,[],h=>h.elim
theorem RU:∀{es es':List (List C)},wkL es es'->A0W es es'
 |[],[],_=>⟨rfl,λi r h=>by simp at h⟩
 |r0::es,r1::es',h=>by
  obtain⟨h1,h2⟩:=RU h.2
  obtain⟨h3,h4⟩:=bB h.1
  refine⟨by simp[h1],λi r' hi=>?_⟩
  cases i with
  |zero=>
   simp only[getElem?_cons_zero,jS]at hi
   subst hi
   exact⟨r0,rfl,h3,h4⟩
  |succ i=>
  simp only[getElem?_cons_succ]at hi ⊢
  exact h2 i r' hi
 |[],_::_,h=>h.elim
 |_::_,[],h=>h.elim
def K1(X:Ctx)(E:Env)(H:Hp)(x:Operand)(t:Nat):Res:=
 match rdv E x with
 |some (.one (.v (.iface _ _)))=>some (rdg E x=true/\pnO X.pn H,⟨.one (.v (.bool false)),[(t,.fact False)]⟩,pnN X.pn)
 |_=>none
def fresh(H:Hp)(d:Option Nat)(f:Nat->Res):Res:=
 match H (d.getD 999999) with
 |none=>(f (d.getD 999999)).map λr=>(r.1,r.2.1,d.getD 999999::r.2.2)
 |some _=>none
def JD(t:Nat):Nat:=2000000+t
def bC(k:Nat):Res->Res
 |some (c,e,fp)=>some (c,e,k::fp)
 |none=>none
def U1(P:Program)(E:Env)(T:TypeId)(n:Nat)(ps:List (Nat×Operand))(t:Nat):Res:=
 match DU P T,reads E ps with
 |some e,some vs=>
  match Aq P e,D6 P e with
  |some s,some z=>
   (HP (λi=>some (i*s,s)) (Mv n (ofV z).cells) vs).bind λcs=>
    match GD (ofV z).cells,EZ (Kc s n cs) with
    |some z',some es'=>some (KO E ps/\okV z=true/\n*s<=16777216/\0<s/\(ofV z).cells.length=s/\cs.all C.stor=true,⟨.one (.d (.sl z' es')),[(t,.dead)]⟩,[t])
    |_,_=>none
  |_,_=>none
 |_,_=>none
def flB(H:Hp)(k:Nat):Bool:=match H k with
 |some (.fact _)=>true
 |_=>false
def RV(P:Program)(E:Env)(H:Hp)(T:TypeId)(n:Nat)(ps:List (Nat×Operand))(t:Nat):Res:=
 if flB H (JD t)=true then bC (JD t) (U1 P E T n ps t) else bC (JD t) (I5 P E T n ps t)
def opS{P:Program}{X:Ctx}{w0:World}(sp:List (Spec P X w0))(o:Oper)(E:Env)(H:Hp):Res:=
 match o.op with
 | .move x=>LQ E x
 | .assign x=>LQ E x
 | .pick c a b=>Qe E c a b
 | .alloc T=>fresh H o.dst λt=>Qg P T t
 | .box _ x=>fresh H o.dst λt=>Tw E x t
 | .build T ps=>Nn P E T ps.toList
 | .buildSlice T n ps=>fresh H o.dst λt=>RV P E H T n ps.toList t
 | .makeSlice T a b=>fresh H o.dst λt=>Ix P E T a b t
 | .load T x=>LR P E H T x
 | .store T x y=>match o.dst with
  |none=>Jv P E H T x y
  |some _=>none
 | .binOp op T x y _=>Tx P E op T x y
 | .unOp op _ x=>Xp E op x
 | .fieldAddr T x f=>Ft P E H T x f
 | .field T x f=>Np P E T x f
 | .indexAddr T x i=>Fv P E H T x i
 | .index T x i=>Nq P E T x i
 | .slice T x lo hi mx=>fresh H o.dst λt=>Jw P E H T x lo hi mx t
 | .extract x i=>Ky E x i
 | .convert s d x=>match L0 P E s d x with
  |some r=>some r
  |none=>Jx P E H s d x
 | .nilCheck x=>N7 E H x
 | .makeInterface T x=>Ns P E T x
 | .makeMap T none=>fresh H o.dst λt=>Mb P T t
 | .lookup T x i ok=>Ie P E H T x i ok
 | .mapUpdate T m k v=>match o.dst with
  |none=>Ee P E H T m k v
  |some _=>none
 | .insert T m k v=>match o.dst with
  |none=>Ee P E H T m k v
  |some _=>none
 | .makeFunc fn first caps=>match fn,first.toList with
  | .func f,[]=>Jy E f caps.toList
  |_,_=>none
 | .panic x=>fresh H o.dst λt=>K1 X E H x t
 | .call c=>
  match c.callee with
  | .builtin b=>match b,c.args.toList,c.argTypes.toList with
   | .append,[x,y],[T,U]=>fresh H o.dst λt=>Ib P E H x y T U t
   | .copy,[x,y],[T,U]=>LU P E H x y T U
   |_,_,_=>HQ P E H b c.args.toList c.argTypes.toList
  | .value (.func f)=>fresh H o.dst λt=>Im sp E H f c.args.toList [] t
  | .value (.tmp s)=>fresh H o.dst λt=>K0 sp E H s c.args.toList t
  |_=>none
 |_=>none
def AtE(h:Bf)(fz:Nat->Prop)(lab:Lab)(I:Nm)(H:Hp)(E:Env)(a:Act):Prop:=
 ∀t g v,E t=some (g,v)->∃x,a.tmps[t]?=some x/\(if g then Ap h fz lab I H v x else x=undef)
def WFE(E:Env)(H:Hp):Prop:=∀t g v,E t=some (g,v)->g=true->Dom H v.names
def DN(P:Program)(o:Oper)(a:Act)(w:World)(X:Ctx)(w0:World)(I:Nm)(lab:Lab)(fz:Nat->Prop)(H:Hp)(e:Eff):Prop:=
 (∃x w',(execOp a.eval o).run P w= .ok (.value x) w'/\I6 X w0 w I lab fz H (some e.val) e.upd x w')∨
 (∃w',(execOp a.eval o).run P w= .ok .skip w'/\o.dst=none/\I6 X w0 w I lab fz H none e.upd undef w')∨
 (∃f args,(execOp a.eval o).run P w= .ok (.enter f args) w/\Calls P f args w (λen w'=>(∃x,en= .returned x/\I6 X w0 w I lab fz H (some e.val) e.upd x w')∨∃ch,en= .panicked ch/\Kh X w0 ch w'))∨
 (∃v,(execOp a.eval o).run P w= .halt (.panic v) w/\Kh X w0 [{ v,recovered:=false }] w)
section
variable {P:Program}{o:Oper}{a:Act}{w w0:World}{X:Ctx}{I:Nm}{lab:Lab}{fz:Nat->Prop}{E:Env}{H:Hp}{c:Prop}{e:Eff}{fp:List Nat}
theorem Hg(h:H6 x=true):Ap (hp w) fz lab I H (.one (.v x)) x:=by
 show SC (hp w) fz lab I H (.v x) x
 exact HN rfl (.v _ _ h)
theorem LW(h:okV x=true):Ap (hp w) fz lab I H (ofV x) x:=by
 cases x with
 |agg cs=>
  refine⟨cs,rfl,by simp,λj c hc=>?_⟩
  simp only[getElem?_map,map_eq_some_iff,getElem?_toList]at hc
  obtain⟨y,hy,rfl⟩:=hc
  simp only[okV,all_eq_true]at h
  exact⟨y,hy,HN (c:=.v y) rfl (.v _ _ (h y (Array.mem_toList_iff.2 (Array.mem_of_getElem? hy))))⟩
 |tuple vs=>simp[okV]at h
 |_=>exact Hg rfl
theorem HS(h:okV x=true):(ofV x).names=[]:=by
 cases x with
 |agg cs=>simp[ofV,SV.names,C.names]
 |tuple vs=>simp[okV]at h
 |_=>rfl
theorem Iy(h:okV x=true):(ofV x).tupB=false:=by
 cases x with
 |tuple vs=>simp[okV]at h
 |_=>rfl
theorem AL(hE:AtE (hp w) fz lab I H E a){x:Operand}(hv:rdv E x=some v)(hg:rdg E x=true):Ap (hp w) fz lab I H v (a.eval x):=by
 cases x with
 |tmp t=>
  simp only[rdv,map_eq_some_iff]at hv
  obtain⟨⟨g,u⟩,he,rfl⟩:=hv
  simp only[rdg,he,map_some,getD_some]at hg
  obtain⟨x,hx,hd⟩:=hE t g u he
  simp only[hg,if_true]at hd
  simpa [Act.eval,hx] using hd
 |const x=>simp only[rdv,jS]at hv;subst hv;exact LW hg
 |func f=>simp only[rdv,jS]at hv;subst hv;exact Hg rfl
 |global g=>simp[rdv]at hv
theorem WFE.rd(hW:WFE E H){x:Operand}(hv:rdv E x=some v)(hg:rdg E x=true):Dom H v.names:=by
 cases x with
 |tmp t=>
  simp only[rdv,map_eq_some_iff]at hv
  obtain⟨⟨g,u⟩,he,rfl⟩:=hv
  exact hW t g u he (by simpa [rdg,he] using hg)
 |const x=>simp only[rdv,jS]at hv;subst hv;rw[HS hg];intro k hk;cases hk
 |func f=>simp only[rdv,jS]at hv;subst hv;intro k hk;cases hk
 |global g=>simp[rdv]at hv
theorem Gq(h:Ap (hp w) fz lab I H v x)(hc:OU v=some y):x=y:=by
 cases v with
 |one c=>
  cases c<;>simp[OU,clC]at hc
  subst hc
  have:=h.2
  cases this;rfl
 |agg l=>
  simp only[OU,map_eq_some_iff]at hc
  obtain⟨vs,hvs,rfl⟩:=hc
  obtain⟨arr,rfl,h1,h2⟩:=h
  have key:∀(l:List C) (vs:List Value),clL l=some vs->vs.length=l.length/\∀(j:Nat) (v:Value),vs[j]?=some v->l[j]?=some (.v v):=by
   intro l
   induction l with
   |nil=>intro vs h;simp only[clL,jS]at h;subst h;simp
   |cons c r ih=>
   intro vs h
   simp only[clL]at h
   split at h
   .rename_i v l' hv hl
    simp only[jS]at h
    subst h
    obtain⟨i1,i2⟩:=ih l' hl
    have:c= .v v:=by cases c<;>simp[clC]at hv;subst hv;rfl
    subst this
    refine⟨by simp[i1],λj v' hj=>?_⟩
    exact AAU
   cases h
  obtain⟨k1,k2⟩:=key l vs hvs
  congr 1
  apply Array.ext'
  apply ext_getElem?
  intro j
  rw[getElem?_toList]
  simp only[List.toList_toArray]
  cases hj:vs[j]? with
  |none=>
   rw[Array.getElem?_eq_none]
   have:=List.getElem?_eq_none_iff.1 hj
   omega
  |some v=>
  obtain⟨y,y1,y2⟩:=h2 j _ (k2 j v hj)
  have y2:=y2.2
  cases y2;exact y1
 |tup l=>simp[OU]at hc
theorem ES{k:IntKind}{n:Int}(h:Ap (hp w) fz lab I H (.one (.v (.int k n))) x):x= .int k n:=Gq h rfl
theorem Nt{b:Bool}(h:Ap (hp w) fz lab I H (.one (.v (.bool b))) x):x= .bool b:=Gq h rfl
theorem Sh{b:ByteArray}(h:Ap (hp w) fz lab I H (.one (.v (.string b))) x):x= .string b:=Gq h rfl
theorem Jh(h:Ap (hp w) fz lab I H v x)(ht:v.tupB=false):ER (hp w) fz lab I H v.cells x.cells:=by
 cases v with
 |one c=>
  have h1:=Qc h
  have:x.cells = #[x]:=by cases x<;>first|rfl|(simp[H6]at h1)
  rw[this]
  refine⟨rfl,λj c' hj=>?_⟩
  cases j with
  |zero=>simp[SV.cells]at hj;subst hj;exact⟨x,rfl,h⟩
  |succ j=>simp[SV.cells]at hj
 |agg l=>obtain⟨arr,rfl,h⟩:=h;exact h
 |tup l=>simp[SV.tupB]at ht
theorem Gk(v:SV)(ht:v.tupB=false):v.cells.flatMap C.names=v.names:=by
 cases v<;>first|(simp[SV.cells,SV.names];done)|cases ht
theorem Yl(x:Operand)(ho:∀ρ,execOp ρ o=pure (.value (ρ x)))(hE:AtE (hp w) fz lab I H E a)(hA:AtW X w0 I lab fz H w)(h:LQ E x=some (c,e,fp))(hc:c):DN P o a w X w0 I lab fz H e:=by
 simp only[LQ,bind_eq_some_iff,rV,jS,jP]at h
 obtain⟨v,hv,rfl,rfl,rfl⟩:=h
 exact .inl ⟨a.eval x,w,by rw[ho];rfl,Uw hA (AL hE hv hc)⟩
theorem CF(hA:AtW X w0 I lab fz H w)(hr:(execOp a.eval o).run P w= .ok (.value x) w)(hv:Ap (hp w) fz lab I H v x):DN P o a w X w0 I lab fz H ⟨v,[]⟩:=
 .inl ⟨x,w,hr,Uw hA hv⟩
theorem kx(x y z:Operand)(ho:o.op= .pick x y z)(hE:AtE (hp w) fz lab I H E a)(hA:AtW X w0 I lab fz H w)(h:Qe E x y z=some (c,e,fp))(hc:c):DN P o a w X w0 I lab fz H e:=by
 simp only[Qe]at h
 split at h
 .rename_i b1 b2 b3 h1 h2 h3
  simp only[rV,jS,jP]at h
  obtain⟨rfl,rfl,rfl⟩:=h
  obtain⟨g1,g2,g3⟩:=hc
  have e1:=Nt (AL hE h1 g1)
  refine CF (x:=.bool (Sb b1 b2 b3)) hA ?_ (Hg rfl)
  cases b1 with
  |true=>
   have e2:=Nt (AL hE h2 (g2 rfl))
   simp[execOp,ho,e1,asBool,e2,Sb]
  |false=>
  have e3:=Nt (AL hE h3 (g3 rfl))
  simp[execOp,ho,e1,asBool,e3,Sb]
 cases h
theorem eI(n:Nat):(Uu n).length=n:=by induction n with|zero=>rfl|succ n ih=>simp[Uu,ih]
theorem A0Z(T:TypeId)(n:Nat):(tgN T n).length=n:=by cases n with|zero=>rfl|succ n=>simp[tgN,eI]
theorem A0a(n:Nat):zT (Uu n)=none:=by cases n<;>rfl
theorem A0b(T:TypeId)(n:Nat):zOK (tgN T n) T 0:=by cases n with|zero=>exact IY rfl|succ n=>exact ak (.inr rfl)
theorem bD(hA:AtW X w0 I lab fz H w)(ht:H t=none)(hv:Ap (hp w) fz lab I H v x)(htup:v.tupB=false)(hst:v.cells.all C.stor=true)(hd:Dom H v.names)(T:TypeId)(zz:List C)(hz1:zz.length=v.cells.length)(hz2:zOK zz T 0):
  I6 X w0 w I lab fz H (some (.one (.p t 0 0))) [(t,.vec 0 zz [v.cells])] (.pointer (some ⟨w.heap.size,0,none⟩)) (w.alloc (.cells x.cells T)):=by
 obtain⟨c1,c2⟩:=Jh hv htup
 refine Md hA w rfl rfl rfl rfl t ht zz [v.cells] x.cells T 1 (by simp) (by rw[hz1,c1];omega) hz2 ?_ _ _ (.inl ⟨rfl,by simp[ptV]⟩)
 intro i cs hi
 cases i with
 |zero=>
  simp only[getElem?_cons_zero,jS]at hi
  subst hi
  refine⟨hz1.symm,λj c hj=>?_⟩
  have hs:c.stor=true:=all_eq_true.1 hst c (mem_of_getElem? hj)
  obtain⟨y,y1,y2⟩:=c2 j c hj
  exact⟨hs,λn hn=>hd n (by rw[<- Gk v htup];exact mem_flatMap.2 ⟨c,mem_of_getElem? hj,hn⟩),y,by simpa using y1,Ju hs y2⟩
 |succ i=>simp at hi
theorem gS(T:TypeId)(t:Nat)(ho:o.op= .alloc T)(hA:AtW X w0 I lab fz H w)(ht:H t=none)(h:Qg P T t=some (c,e,fp))(hc:c):DN P o a w X w0 I lab fz H e:=by
 simp only[Qg,bind_eq_some_iff,jS,jP]at h
 obtain⟨z,hz,rfl,rfl,rfl⟩:=h
 refine .inl ⟨_,_,?_,bD hA ht (LW hc) (Iy hc) ?_ (by rw[HS hc];intro k hk;cases hk) T _ (A0Z T _) (A0b T _)⟩
 .simp only[execOp,ho,Instr.alloc,Sem.run_bind,GS hz,Result.andThen_ok,newVar,newRow,run_newObj,Sem.run_pure,World.alloc_eq]
 cases z with
 |agg cs=>simp[ofV,SV.cells,C.stor]
 |tuple vs=>simp[okV]at hc
 |_=>rfl
theorem ot(T:TypeId)(x:Operand)(t:Nat)(ho:o.op= .box T x)(hE:AtE (hp w) fz lab I H E a)(hW:WFE E H)(hA:AtW X w0 I lab fz H w)(ht:H t=none)(h:Tw E x t=some (c,e,fp))(hc:c):DN P o a w X w0 I lab fz H e:=by
 simp only[Tw,bind_eq_some_iff,jS,jP]at h
 obtain⟨v,hv,rfl,rfl,rfl⟩:=h
 obtain⟨hg,h1,h2⟩:=hc
 refine .inl ⟨_,_,?_,bD hA ht (AL hE hv hg) h1 h2 (hW.rd hv hg) T _ (eI _) (IY (A0a _))⟩
 simp only[execOp,ho,Instr.box,newVar,newRow,Sem.run_bind,run_newObj,Result.andThen_ok,Sem.run_pure,World.alloc_eq]
theorem bE{op:BinOp}{T:TypeId}{v:Value}{c:Prop}(hr:Xo P op T x y=some (c,v)):okV v=true:=by
 unfold Xo at hr
 split at hr
 .split at hr
  .split at hr
   .simp only[jS,jP]at hr;obtain⟨_,rfl⟩:=hr;rfl
   simp only[map_eq_some_iff,jP]at hr;obtain⟨_,_,_,rfl⟩:=hr;rfl
  cases hr
 .unfold gQ at hr
  exact AAA
 .exact AAA
 .split at hr
  .split at hr
   .exact AAA
   cases hr
  cases hr
 cases hr
theorem eJ{z:Bool}(hz:LS cc=some z)(hs:SC (hp w) fz lab I H cc x):∃p:Option Addr,x= .pointer p/\p.isNone=z:=by
 unfold LS at hz
 split at hz<;>simp only[jS,reduceCtorEq]at hz<;>subst hz
 .have:=hs.2;cases this;exact⟨_,rfl,rfl⟩
 .have:=hs.2;cases this;exact⟨_,rfl,rfl⟩
 .have:=hs.2;cases this with|d _ _ _ r=>cases r;exact⟨_,rfl,rfl⟩
 .have:=hs.2;cases this with|d _ _ _ r=>cases r;exact⟨_,rfl,rfl⟩
 have:=hs.2;cases this with|dp _ _ _ r=>cases r;exact⟨_,rfl,rfl⟩
theorem ou(op:BinOp)(T T':TypeId)(x y:Operand)(ho:o.op= .binOp op T x y T')(hE:AtE (hp w) fz lab I H E a)(hA:AtW X w0 I lab fz H w)(h:Tx P E op T x y=some (c,e,fp))(hc:c):DN P o a w X w0 I lab fz H e:=by
 simp only[Tx]at h
 split at h
 .rename_i u v h1 h2
  have key:∀z,Sc P op T u v=some z->c=(rdg E x=true/\rdg E y=true)->e=⟨.one (.v (.bool z)),[]⟩->DN P o a w X w0 I lab fz H e:=by
   intro z hz hce hee
   subst hee
   rw[hce]at hc
   unfold Sc at hz
   split at hz
   .rename_i cc _ _
    have hut:∀e',tPtr P T=some e'->P.underlying T=some (.pointer e'):=by
     intro e' hp'
     unfold tPtr at hp'
     split at hp'
     .simp_all
     cases hp'
    have e2:=Gq (AL hE h2 hc.2) rfl
    have e1:=AL hE h1 hc.1
    split at hz
    .rename_i e' hp'
     obtain⟨p,p1,rfl⟩:=eJ hz e1
     refine CF (x:=.bool p.isNone) hA ?_ (Hg rfl)
     have hok:=(Yj (hut _ hp') p x y w).1
     simp only[execOp,ho,p1,e2,Sem.run_bind,Sem.run_pure]at hok ⊢
     rw[hok];rfl
    .rename_i e' hp'
     simp only[map_eq_some_iff]at hz
     obtain⟨z',hz,rfl⟩:=hz
     obtain⟨p,p1,rfl⟩:=eJ hz e1
     refine CF (x:=.bool (!p.isNone)) hA ?_ (Hg rfl)
     have hok:=(Yj (hut _ hp') p x y w).2
     simp only[execOp,ho,p1,e2,Sem.run_bind,Sem.run_pure]at hok ⊢
     rw[hok];rfl
    cases hz
   cases hz
  split at h
  .rename_i u' v' hu hv
   split at h
   .rename_i r hr
    simp only[rV,jS,jP]at h
    obtain⟨rfl,rfl,rfl⟩:=h
    obtain⟨g1,g2,hc⟩:=hc
    have e1:=Gq (AL hE h1 g1) hu
    have e2:=Gq (AL hE h2 g2) hv
    obtain⟨rc,rv⟩:=r
    have hok:=vQ hr hc x y w
    have hov:okV rv=true:=bE hr
    refine CF (x:=rv) hA ?_ (LW hov)
    simp only[execOp,ho,e1,e2,Sem.run_bind,Sem.run_pure]at hok ⊢
    rw[hok];rfl
   exact AAe
  exact AAe
 cases h
theorem vT(op:UnOp)(T:TypeId)(x:Operand)(ho:o.op= .unOp op T x)(hE:AtE (hp w) fz lab I H E a)(hA:AtW X w0 I lab fz H w)(h:Xp E op x=some (c,e,fp))(hc:c):DN P o a w X w0 I lab fz H e:=by
 simp only[Xp]at h
 split at h
 .rename_i u h1
  simp only[bind_eq_some_iff,rV,jS,jP]at h
  obtain⟨r,hr,rfl,rfl,rfl⟩:=h
  have e1:=AL hE h1 hc
  unfold unV at hr
  split at hr<;>simp only[jS,reduceCtorEq]at hr<;>subst hr
  .have e1:=Nt e1
   exact CF hA (by simp[execOp,ho,e1,Op.unary]) (Hg rfl)
  have e1:=ES e1
  exact CF hA (by simp[execOp,ho,e1,Op.unary,Op.intArith]) (Hg rfl)
 cases h
theorem bF(s d:TypeId)(x:Operand)(ho:o.op= .convert s d x)(hE:AtE (hp w) fz lab I H E a)(hA:AtW X w0 I lab fz H w)(h:L0 P E s d x=some (c,e,fp))(hc:c):DN P o a w X w0 I lab fz H e:=by
 simp only[L0]at h
 split at h
 .rename_i k0 n k1 k h1 hs hd
  simp only[rV,jS,jP]at h
  obtain⟨rfl,rfl,rfl⟩:=h
  have e1:=ES (AL hE h1 hc)
  have hu:∀t q,PX P t=some q->P.underlying t=some (.int q):=by
   intro t q hq
   unfold PX at hq
   split at hq
   .simp_all
   simp at hq
  exact CF hA (by simp[execOp,ho,e1,convert,run_underlying (hu _ _ hs),run_underlying (hu _ _ hd),Conv.intToInt]) (Hg rfl)
 cases h
theorem bG(x:Operand)(i:Nat)(ho:o.op= .extract x i)(hE:AtE (hp w) fz lab I H E a)(hA:AtW X w0 I lab fz H w)(h:Ky E x i=some (c,e,fp))(hc:c):DN P o a w X w0 I lab fz H e:=by
 simp only[Ky]at h
 split at h
 .rename_i l h1
  have key:∀p,l[i]?=some p->rdg E x=true->∃y,(execOp a.eval o).run P w= .ok (.value y) w/\gO (hp w) fz lab I H p y:=by
   intro p hp' hg
   obtain⟨arr,e1,e2,e3⟩:=AL hE h1 hg
   obtain⟨y,y1,y2⟩:=e3 i p hp'
   exact⟨y,by simp[execOp,ho,e1,Instr.extract,y1],y2⟩
  split at h
  .rename_i cc hcc
   simp only[rV,jS,jP]at h
   obtain⟨rfl,rfl,rfl⟩:=h
   obtain⟨y,y1,y2⟩:=key _ hcc hc
   exact CF hA y1 y2
  .rename_i cs hcs
   simp only[rV,jS,jP]at h
   obtain⟨rfl,rfl,rfl⟩:=h
   obtain⟨y,y1,y2⟩:=key _ hcs hc
   exact CF hA y1 y2
  cases h
 cases h
end
open Go.RowKit
section
variable {P:Program}{o:Oper}{a:Act}{w w0:World}{X:Ctx}{I:Nm}{lab:Lab}{fz:Nat->Prop}{E:Env}{H:Hp}{c:Prop}{e:Eff}{fp:List Nat}
theorem EP{T e:TypeId}(h:DU P T=some e):P.underlying T=some (.slice e):=by
 unfold DU at h
 split at h
 .simp_all
 cases h
theorem bH{T:TypeId}{ae:Nat×TypeId}(h:b5 P T=some ae):P.underlying T=some (.array ae.1 ae.2):=by
 unfold b5 at h
 exact AAh
theorem Me{T:TypeId}(h:Mu P T=true):P.underlying T=some .string:=by
 unfold Mu at h
 split at h
 .assumption
 cases h
theorem Ym{T:TypeId}{f:Nat}{ft:TypeId}(h:AA P T f=some (off,ft)):∃fs x,P.underlying T=some (.struct fs)/\fs[f]?=some x/\x.offset=off/\x.type=ft:=by
 unfold AA at h
 split at h
 .simp_all
 simp at h
theorem gT{T:TypeId}{n:Nat}{l:List C}(hn:Aq P T=some n)(hv:ldV (Cw P T) n l=some v)
  (hl:∀(j:Nat) (c:C),l[j]?=some c->∃y,w.cell? ⟨b,off+j,none⟩=some y/\SC (hp w) fz lab I H c y):∃x,(loadVar T ⟨b,off,none⟩).run P w= .ok x w/\Ap (hp w) fz lab I H v x:=by
 classical
 unfold ldV at hv
 split at hv
 .rename_i ha
  split at hv
  .rename_i hle
   simp only[jS]at hv
   subst hv
   let vs:List Value:=(List.range n).map λj=>(w.cell? ⟨b,off+j,none⟩).getD undef
   have hvs:∀(j:Nat) (c:C),(l.take n)[j]?=some c->∃y,vs[j]?=some y/\SC (hp w) fz lab I H c y:=by grind
   have hl':=run_loadCells_list (P:=P) w ⟨b,off,none⟩ vs (λj v hv=>by
    have hjn:j<n:=by have:=(List.getElem?_eq_some_iff.1 hv).1;simpa [vs] using this
    have hjl:j<l.length:=by omega
    obtain⟨y,y1,y2⟩:=hl j l[j] (getElem?_eq_getElem hjl)
    simp[vs,hjn,y1]at hv
    subst hv
    rw[H7];exact y1)
   have hlen:vs.length=n:=by simp[vs]
   rw[hlen]at hl'
   refine⟨.agg vs.toArray,?_,vs.toArray,rfl,by simp[hlen];omega,λj c hj=>?_⟩
   .simp only[loadVar,Sem.run_bind,Ma ha,if_true,run_sizeOf hn,Result.andThen_ok,hl',Sem.run_pure]
   .simp_all
  .cases hv
 .rename_i ha
  split at hv
  .rename_i c r
   simp only[jS]at hv
   subst hv
   obtain⟨y,y1,y2⟩:=hl 0 c rfl
   refine⟨y,?_,y2⟩
   rw[Nat.add_zero]at y1
   simp only[loadVar,Sem.run_bind,Ma ha,jB,if_false,Result.andThen_ok,run_load,y1]
  .cases hv
 .cases hv
theorem ky(h:Den (hp w) fz lab I π cc y)(hov:cc.flat=true):SC (hp w) fz lab I H cc y:=by
 have hs:cc.stor=true:=by
  cases h with
  |nil=>cases hov
  |ov=>cases hov
  |_=>rfl
 exact HN hs (DT (λb hb=>⟨hb,rfl⟩) hov h λ_ _=>rfl)
theorem Xq(k u:Nat)(p:List (Nat×Nat))(i:Nat):∀(l:List C) (j m:Nat) (c:C),(ldc k u p i j l)[m]?=some c->∃c0,l[m]?=some c0/\(c=c0/\c0.flat=true∨c= .vw k u (p++[(i,j+m)])/\∃z es,c0= .ov z es)
 |[],j,m,c,h=>by simp[ldc]at h
 |c0::r,j,m,c,h=>by
  cases m with
  |zero=>
   refine⟨c0,rfl,?_⟩
   cases c0<;>simp only[ldc,getElem?_cons_zero,jS]at h<;>subst h
   case ov z es=>exact .inr ⟨rfl,z,es,rfl⟩
   all_goals exact .inl ⟨rfl,rfl⟩
  |succ m=>
  have h':(ldc k u p i (j+1) r)[m]?=some c:=by cases c0<;>simpa [ldc] using h
  obtain⟨c1,g1,g2⟩:=Xq k u p i r (j+1) m c h'
  refine⟨c1,by simpa using g1,?_⟩
  rcases g2 with g2|⟨g2,g3⟩
  .exact .inl g2
  grind
theorem bI(hA:AtW X w0 I lab fz H w){z:List C}(hk:H k=some (.vec u z es))(hi:i<es.length):
  ∃b off,(I k).p i j= .pointer (some ⟨b,off,none⟩)/\∀(m:Nat) (c:C),(ldc k u [] i j ((es.getD i z).drop j))[m]?=some c->∃y,w.cell? ⟨b,off+m,none⟩=some y/\SC (hp w) fz lab I H c y:=by
 obtain⟨b,off,cap,arr,T,hI,hlb,hh,hsz,hcap,hc⟩:=OX hA hk hi
 refine⟨b,off+(i*z.length+j),by simp[NV.p,hI,ptV],λm c hm=>?_⟩
 obtain⟨c0,g1,g2⟩:=Xq k u [] i _ j m c hm
 rw[getElem?_drop]at g1
 obtain⟨_,q2⟩:=hc i _ (FT (d:=z) hi)
 obtain⟨y,y1,y2⟩:=q2 _ c0 g1
 have hhw:w.heap[b]?=some (.cells arr T (0,0)):=hh
 refine⟨y,?_,?_⟩
 .simp only[World.cell?,hhw,isSome_none,jB,if_false]
  rw[<- y1];congr 1;omega
 .rcases g2 with⟨rfl,g2⟩|⟨rfl,g2⟩
  .exact ky y2 g2
  .refine⟨Jt y2,λu' z' es' hk'=>?_⟩
   rw[hk]at hk'
   simp only[jS,Ch.vec.injEq]at hk'
   obtain⟨rfl,rfl,rfl⟩:=hk'
   exact⟨Nat.le_refl _,λ_ _ _=>⟨b,off,arr,T,(0,0),by rw[hI],hh,y1⟩⟩
theorem Nu(hA:AtW X w0 I lab fz H w){z:List C}(hk:H k=some (.vec u z es))(hi:inP p z es)(hj:Et p z es=some (.ov z' es'))(hv:Vw (hp w) I H k u p y):
  Den (hp w) fz lab I ([k]++flatP p) (.ov z' es') y/\AtP (hp w) p (I k).b z es y:=by
 obtain⟨hbv,hbase⟩:=Ig hA hk
 have ha:=(hv.2 u z es hk).2 rfl hi (by simp[ovP,hj,ovC])
 exact⟨Jg p hbv hi hj (by rw[hbase];exact ha),ha⟩
theorem RW{cs:List D}{y:Value}(r:Rd (hp w) fz (.pt (some cs)) y):
  ∃b off,y= .pointer (some ⟨b,off,none⟩)/\∀(m:Nat) (c:C),(cs.map oD)[m]?=some c->∃y,w.cell? ⟨b,off+m,none⟩=some y/\SC (hp w) fz lab I H c y:=by
 cases r with
 |pt _ b off arr T m val hz hb hc hr=>
  refine⟨b,off,rfl,λj c hj=>?_⟩
  simp only[getElem?_map,map_eq_some_iff]at hj
  obtain⟨d,hd,rfl⟩:=hj
  have hbw:w.heap[b]?=some (.cells arr T m):=hb
  refine⟨val j,?_,HN (Nr d) (bA (hr j d hd))⟩
  simp only[World.cell?,hbw,isSome_none,jB,if_false]
  exact hc j d hd
theorem l6(T:TypeId)(x:Operand)(ho:o.op= .load T x)(hE:AtE (hp w) fz lab I H E a)(hA:AtW X w0 I lab fz H w)(h:LR P E H T x=some (c,e,fp))(hc:c):DN P o a w X w0 I lab fz H e:=by
 have fin:∀{b off:Nat} {l:List C} {n:Nat} {v:SV},a.eval x= .pointer (some ⟨b,off,none⟩)->Aq P T=some n->ldV (Cw P T) n l=some v->
   (∀(j:Nat) (c:C),l[j]?=some c->∃y,w.cell? ⟨b,off+j,none⟩=some y/\SC (hp w) fz lab I H c y)->DN P o a w X w0 I lab fz H ⟨v,[]⟩:=by
  intro b off l n v hx hn hv hl
  obtain⟨y,y1,y2⟩:=gT hn hv hl
  refine CF hA ?_ y2
  simp only[execOp,ho,hx,Instr.loadAt,Instr.sureAddr,Sem.run_bind,Sem.run_pure,Result.andThen_ok,y1]
 simp only[LR]at h
 split at h
 .rename_i k i j n h1 hn
  split at h
  .rename_i u z es hk
   simp only[bind_eq_some_iff,rV,jS,jP]at h
   obtain⟨v,hv,rfl,rfl,rfl⟩:=h
   obtain⟨hg,hi⟩:=hc
   have hs:=(AL hE h1 hg).2
   obtain⟨b,off,hp',hl⟩:=bI (j:=j) hA hk hi
   refine fin ?_ hn hv hl
   rw[<- hp']
   generalize a.eval x=q at*
   cases hs;rfl
  cases h
 .rename_i cs n h1 hn
  simp only[bind_eq_some_iff,rV,jS,jP]at h
  obtain⟨v,hv,rfl,rfl,rfl⟩:=h
  have hs:=(AL hE h1 hc).2
  generalize hq:a.eval x=q at*
  cases hs with
  |dp _ _ _ r=>
  obtain⟨b,off,rfl,hl⟩:=RW (H:=H) (lab:=lab) (I:=I) r
  exact fin rfl hn hv hl
 .rename_i cs n h1 hn
  simp only[bind_eq_some_iff,rV,jS,jP]at h
  obtain⟨v,hv,rfl,rfl,rfl⟩:=h
  have hs:=(AL hE h1 hc).2
  generalize hq:a.eval x=q at*
  cases hs with
  |d _ _ _ r=>
  obtain⟨b,off,rfl,hl⟩:=RW (H:=H) (lab:=lab) (I:=I) r
  exact fin rfl hn hv hl
 .rename_i k u p s m o' n h1 hn
  split at h
  .rename_i u' z es hk
   split at h
   .rename_i z' es' hj
    simp only[bind_eq_some_iff,rV,jS,jP]at h
    obtain⟨v,hv,rfl,rfl,rfl⟩:=h
    obtain⟨hg,rfl,rfl,hi,hm⟩:=hc
    obtain⟨y,y1,y2⟩:=AL hE h1 hg
    obtain⟨hden,hat⟩:=Nu hA hk hi hj y1
    obtain⟨hvec,_⟩:=Ik hden
    rcases hvec with⟨rfl,_⟩|⟨b,off,cap,arr,T',rfl,hlb,hh,hsz,hcap,hcc⟩
    .simp at hm
    refine fin (b:=b) (off:=off+(m*z'.length+o')) (by rw[y2];rfl) hn hv λjj c hjj=>?_
    obtain⟨c0,g1,g2⟩:=Xq k _ p m _ o' jj c hjj
    rw[getElem?_drop]at g1
    obtain⟨_,q2⟩:=hcc m _ (FT (d:=z') hm)
    obtain⟨yy,yy1,yy2⟩:=q2 _ c0 g1
    have hhw:w.heap[b]?=some (.cells arr T' (0,0)):=hh
    refine⟨yy,?_,?_⟩
    .simp only[World.cell?,hhw,isSome_none,jB,if_false]
     rw[<- yy1];congr 1;omega
    rcases g2 with⟨rfl,g2⟩|⟨rfl,g2⟩
    .exact ky yy2 g2
    refine⟨Jt yy2,λu2 z2 es2 hk'=>?_⟩
    rw[hk]at hk'
    simp only[jS,Ch.vec.injEq]at hk'
    obtain⟨rfl,rfl,rfl⟩:=hk'
    exact⟨Nat.le_refl _,λ_ _ _=>b9 p hat hj (Fw _ _ _) hh yy1⟩
   cases h
  cases h
 cases h
theorem bJ(hA:AtW X w0 I lab fz H w)(hs:SC (hp w) fz lab I H cc y){g:Prop}{fp:List Nat}(hg:RQ H cc=some (g,fp))(h0:g):
  ∃b off,y= .pointer (some ⟨b,off,none⟩)/\∀n,SC (hp w) fz lab I H (ptrA n cc) (.pointer (some ⟨b,off+n,none⟩)):=by
 have dcase:∀{cs:List D} {q:Value},Rd (hp w) fz (.pt (some cs)) q->∃b off,q= .pointer (some ⟨b,off,none⟩)/\∀n,SC (hp w) fz lab I H (.dp (cs.drop n)) (.pointer (some ⟨b,off+n,none⟩)):=by
  intro cs q r
  cases r with
  |pt _ b off arr T' m val hz hb hcc hr=>
   refine⟨b,off,rfl,λn=>⟨rfl,.dp _ _ _ (.pt _ b (off+n) arr T' m (λj=>val (n+j)) hz hb ?_ ?_)⟩⟩
   .grind
   .simp_all
 unfold RQ at hg
 split at hg
 .rename_i k i j
  split at hg
  .rename_i u z es hk
   simp only[jS,jP]at hg
   obtain⟨rfl,rfl⟩:=hg
   obtain⟨b,off,cap,arr,T,hI,_⟩:=OX hA hk h0
   have:=hs.2
   cases this
   refine⟨b,off+(i*z.length+j),by simp[NV.p,ptV,hI],λn=>?_⟩
   have e2:(.pointer (some ⟨b,off+(i*z.length+j)+n,none⟩):Value)=(I k).p i (j+n):=by
    simp[NV.p,ptV,hI]<;>omega
   rw[e2]
   exact⟨rfl,.p _ _ _ _⟩
  .cases hg
 .rename_i k u p s m o'
  split at hg
  .rename_i u' z es hk
   split at hg
   .rename_i z' es' hj
    simp only[jS,jP]at hg
    obtain⟨rfl,rfl⟩:=hg
    obtain⟨rfl,hi,hm⟩:=h0
    obtain⟨x,x1,x2⟩:=hs
    have hden:=(Nu hA hk hi hj x1).1
    obtain⟨hvec,_⟩:=Ik hden
    rcases hvec with⟨rfl,_⟩|⟨b,off,cap,arr,T',rfl,_⟩
    .simp at hm
    .refine⟨b,off+(m*s+o'),x2,λn=>⟨_,x1,?_⟩⟩
     simp[aw,slV]<;>omega
   .cases hg
  .cases hg
 .have:=hs.2
  cases this with|dp _ _ _ r=>exact dcase r
 .have:=hs.2
  cases this with|d _ _ _ r=>exact dcase r
 .cases hg
theorem Xr(T:TypeId)(x:Operand)(f:Nat)(ho:o.op= .fieldAddr T x f)(hE:AtE (hp w) fz lab I H E a)(hA:AtW X w0 I lab fz H w)(h:Ft P E H T x f=some (c,e,fp))(hc:c):DN P o a w X w0 I lab fz H e:=by
 simp only[Ft]at h
 split at h
 .rename_i cc fo ft h1 hf
  split at h
  .rename_i n g fp' hn hg
   simp only[rV,jS,jP]at h
   obtain⟨rfl,rfl,rfl⟩:=h
   obtain⟨g1,g2,g3⟩:=hc
   obtain⟨b,off,hx,hv⟩:=bJ hA (AL hE h1 g1) hg g3
   obtain⟨fs,fx,hu,hx',rfl,rfl⟩:=Ym hf
   refine CF hA ?_ (hv fx.offset)
   simp only[execOp,ho,hx,Instr.fieldAt,Sem.run_bind,run_underlying hu,Result.andThen_ok,hx',Instr.sureAddr,Sem.run_pure,fieldPlace,run_sizeOf hn,g2,if_false,H7]
  cases h
 cases h
theorem eK{T:TypeId}{n:Nat}{l:List C}(hl:ER (hp w) fz lab I H l arr)(hn:Aq P T=some n)(hv:ldV (Cw P T) n (l.drop off)=some v):
  ∃x,(part T arr off).run P w= .ok x w/\Ap (hp w) fz lab I H v x:=by
 unfold ldV at hv
 split at hv
 .rename_i ha
  split at hv
  .rename_i hle
   simp only[jS]at hv
   subst hv
   refine⟨.agg (arr.extract off (off+n)),by simp only[part,Sem.run_bind,Ma ha,if_true,run_sizeOf hn,Result.andThen_ok,Sem.run_pure],_,rfl,?_,λj c hj=>?_⟩
   .simp only[List.length_drop]at hle
    simp[hl.1];omega
   .have hjn:j<n:=by have:=(List.getElem?_eq_some_iff.1 hj).1;simp at this;omega
    rw[getElem?_take,if_pos hjn,getElem?_drop]at hj
    obtain⟨y,y1,y2⟩:=hl.2 _ c hj
    refine⟨y,?_,y2⟩
    rw[Array.getElem?_extract,if_pos (by have:=(Array.getElem?_eq_some_iff.1 y1).1;omega)]
    exact y1
  .cases hv
 .rename_i ha
  split at hv
  .rename_i c r hd
   simp only[jS]at hv
   subst hv
   have:l[off]?=some c:=by
    have:=congrArg (λq=>q[0]?) hd
    simpa using this
   obtain⟨y,y1,y2⟩:=hl.2 _ c this
   exact⟨y,by simp only[part,Sem.run_bind,Ma ha,jB,if_false,Result.andThen_ok,y1,Sem.run_pure],y2⟩
  .cases hv
 .cases hv
theorem gU(T:TypeId)(x:Operand)(f:Nat)(ho:o.op= .field T x f)(hE:AtE (hp w) fz lab I H E a)(hA:AtW X w0 I lab fz H w)(h:Np P E T x f=some (c,e,fp))(hc:c):DN P o a w X w0 I lab fz H e:=by
 simp only[Np]at h
 split at h
 .rename_i l fo ft h1 hf
  split at h
  .rename_i n hn
   simp only[bind_eq_some_iff,rV,jS,jP]at h
   obtain⟨v,hv,rfl,rfl,rfl⟩:=h
   obtain⟨arr,hx,hl⟩:=AL hE h1 hc
   obtain⟨fs,fx,hu,hx',rfl,rfl⟩:=Ym hf
   obtain⟨y,y1,y2⟩:=eK hl hn hv
   refine CF hA ?_ y2
   simp only[execOp,ho,hx,Instr.field,Sem.run_bind,run_underlying hu,Result.andThen_ok,hx',asAgg,Sem.run_pure,y1]
  cases h
 cases h
theorem bK{z:List D}{es:List (List D)}{a:Option Addr}(r:Rd (hp w) fz (.sl z es) (.slice a len cap)){n:Nat}(hn:n<es.length):
  ∃b off,a=some ⟨b,off,none⟩/\len=es.length/\Rd (hp w) fz (.pt (some (es.getD n z))) (.pointer (some ⟨b,off+n*z.length,none⟩)):=by
 cases r with
 |nil=>simp at hn
 |sl _ _ b off _ arr T m val hz hb hcap hl hcc hr=>
  refine⟨b,off,rfl,rfl,.pt _ b (off+n*z.length) arr T m (λj=>val n j) hz hb ?_ ?_⟩
  .simp_all
  .simp_all
theorem Xs(T:TypeId)(x i:Operand)(ho:o.op= .indexAddr T x i)(hE:AtE (hp w) fz lab I H E a)(hA:AtW X w0 I lab fz H w)(h:Fv P E H T x i=some (c,e,fp))(hc:c):DN P o a w X w0 I lab fz H e:=by
 have fin:∀{ad:Addr} {len cap s:Nat} {k:IntKind} {n:Int} {e':TypeId} {v:SV},a.eval x= .slice (some ad) len cap->a.eval i= .int k n->DU P T=some e'->Aq P e'=some s->0<=n->n<len->
   Ap (hp w) fz lab I H v (.pointer (some (ad.add (n.toNat*s))))->DN P o a w X w0 I lab fz H ⟨v,[]⟩:=by
  intro ad len cap s k n e' v hx hi' he hs h1 h2 hv
  refine CF hA ?_ hv
  simp[execOp,ho,hx,hi',Instr.indexAt,asIntOf,run_underlying (EP he),h1,h2,run_sizeOf hs]
 simp only[Fv]at h
 split at h
 .rename_i k kk n h1 h2
  split at h
  .rename_i u z es e' hk he
   simp only[bind_eq_some_iff,rV,jS,jP]at h
   obtain⟨s,hs,rfl,rfl,rfl⟩:=h
   obtain⟨g1,g2,b1,b2,rfl⟩:=hc
   have hsx:=(AL hE h1 g1).2
   have e2:=ES (AL hE h2 g2)
   have hlt:n.toNat<es.length:=by omega
   obtain⟨b,off,cap,arr,T',hI,_⟩:=OX hA hk hlt
   have hx:a.eval x= .slice (some ⟨b,off,none⟩) es.length cap:=by
    generalize a.eval x=q at*
    cases hsx;simp[NV.v,slV,hI]
   refine fin hx e2 he hs b1 b2 ?_
   have:(.pointer (some ((⟨b,off,none⟩:Addr).add (n.toNat*z.length))):Value)=(I k).p n.toNat 0:=by
    rw[H7];simp[NV.p,ptV,hI]
   rw[this]
   exact⟨rfl,.p _ _ _ _⟩
  cases h
 .rename_i z es kk n h1 h2
  simp only[bind_eq_some_iff,rV,jS,jP]at h
  obtain⟨e',he,s,hs,rfl,rfl,rfl⟩:=h
  obtain⟨g1,g2,b1,b2,rfl⟩:=hc
  have hsx:=(AL hE h1 g1).2
  have e2:=ES (AL hE h2 g2)
  have hlt:n.toNat<es.length:=by omega
  generalize hq:a.eval x=q at*
  cases hsx with
  |d _ _ _ r=>
  cases r with
  |nil=>simp at hlt
  |sl _ _ b off cap arr T' m val hz hb hcap hl hcc hr=>
  obtain⟨b',off',e3,_,e4⟩:=bK (.sl z es b off cap arr T' m val hz hb hcap hl hcc hr) hlt
  simp only[jS,Addr.mk.injEq]at e3
  obtain⟨rfl,rfl,_⟩:=e3
  refine fin rfl e2 he hs b1 b2 ?_
  rw[H7]
  exact⟨rfl,.dp _ _ _ e4⟩
 .rename_i z es kk n h1 h2
  simp only[bind_eq_some_iff,rV,jS,jP]at h
  obtain⟨e',he,s,hs,rfl,rfl,rfl⟩:=h
  obtain⟨g1,g2,b1,b2,rfl⟩:=hc
  have hsx:=(AL hE h1 g1).2
  have e2:=ES (AL hE h2 g2)
  have hlt:n.toNat<es.length:=by omega
  generalize hq:a.eval x=q at*
  cases hsx with
  |df _ _ _ ad r=>
  obtain⟨b',off',rfl,_,e4⟩:=bK r hlt
  refine fin rfl e2 he hs b1 b2 ?_
  rw[H7]
  exact⟨rfl,.dp _ _ _ e4⟩
 .rename_i k u p kk n h1 h2
  split at h
  .rename_i u' z es e' hk he
   split at h
   .rename_i z' es' hj
    simp only[bind_eq_some_iff,rV,jS,jP]at h
    obtain⟨s,hs,rfl,rfl,rfl⟩:=h
    obtain⟨g1,g2,rfl,hi,b1,b2,rfl⟩:=hc
    have hsx:=AL hE h1 g1
    have e2:=ES (AL hE h2 g2)
    have hden:=(Nu hA hk hi hj hsx).1
    obtain⟨hvec,_⟩:=Ik hden
    rcases hvec with⟨rfl,_⟩|⟨b,off,cap,arr,T',hx,_⟩
    .grind
    refine fin hx e2 he hs b1 b2 ⟨_,hsx,?_⟩
    rw[hx];simp[aw,slV,H7]
   cases h
  cases h
 .rename_i cc kk n _ _ _ _ h1 h2
  split at h
  .rename_i ae hae
   split at h
   .rename_i s g fp' hs hg
    simp only[rV,jS,jP]at h
    obtain⟨rfl,rfl,rfl⟩:=h
    obtain⟨g1,g2,b1,b2,g3⟩:=hc
    obtain⟨b,off,hx,hv⟩:=bJ hA (AL hE h1 g1) hg g3
    have e2:=ES (AL hE h2 g2)
    have hu:=bH hae
    refine CF hA ?_ (hv (n.toNat*s))
    simp[execOp,ho,hx,e2,Instr.indexAt,Instr.sureAddr,asIntOf,run_underlying hu,b1,b2,run_sizeOf hs,H7]
   cases h
  cases h
 cases h
theorem gV(T:TypeId)(x i:Operand)(ho:o.op= .index T x i)(hE:AtE (hp w) fz lab I H E a)(hA:AtW X w0 I lab fz H w)(h:Nq P E T x i=some (c,e,fp))(hc:c):DN P o a w X w0 I lab fz H e:=by
 simp only[Nq]at h
 split at h
 .rename_i s kk n h1 h2
  split at h
  .rename_i ht
   simp only[rV,jS,jP]at h
   obtain⟨rfl,rfl,rfl⟩:=h
   obtain⟨g1,g2,b1,b2⟩:=hc
   have e1:=Sh (AL hE h1 g1)
   have e2:=ES (AL hE h2 g2)
   refine CF (x:=.int .u8 (s.toList.getD n.toNat 0).toNat) hA ?_ (Hg rfl)
   have hb:0<=n/\n<s.size:=⟨b1,by rw[Hf];exact b2⟩
   have hrun:=run_index_string (P:=P) w T s kk n (Me ht)
   rw[dif_pos hb]at hrun
   simp only[execOp,ho,e1,e2,Sem.run_bind,hrun,Result.andThen_ok,Sem.run_pure]
   have hlt:n.toNat<s.toList.length:=by omega
   have:s[n.toNat]'(by omega)=s.toList.getD n.toNat 0:=by
    simp only[List.getD,getElem?_eq_getElem hlt,getD_some]
    simp only[ByteArray.toList_eq,Array.getElem_toList]
    rfl
   rw[this]
  cases h
 .rename_i l kk n h1 h2
  simp only[bind_eq_some_iff,rV,jS,jP]at h
  obtain⟨ae,hae,s,hs,v,hv,rfl,rfl,rfl⟩:=h
  obtain⟨g1,g2,b1,b2⟩:=hc
  obtain⟨arr,e1,hl⟩:=AL hE h1 g1
  have e2:=ES (AL hE h2 g2)
  obtain⟨y,y1,y2⟩:=eK hl hs hv
  refine CF hA ?_ y2
  simp[execOp,ho,e1,e2,Instr.index,asIntOf,run_underlying (bH hae),b1,b2,run_sizeOf hs,y1]
 cases h
theorem B1A(x:Operand)(ho:o.op= .nilCheck x)(hE:AtE (hp w) fz lab I H E a)(hA:AtW X w0 I lab fz H w)(h:N7 E H x=some (c,e,fp))(hc:c):DN P o a w X w0 I lab fz H e:=by
 simp only[N7]at h
 split at h
 .rename_i k i j h1
  split at h
  .rename_i u z es hk
   simp only[rV,jS,jP]at h
   obtain⟨rfl,rfl,rfl⟩:=h
   obtain⟨g1,g2⟩:=hc
   have hs:=AL hE h1 g1
   obtain⟨b,off,cap,arr,T',hI,_⟩:=OX hA hk g2
   have hx:a.eval x= .pointer (some ⟨b,off+(i*z.length+j),none⟩):=by
    have:=hs.2
    generalize a.eval x=q at*
    cases this;simp[NV.p,ptV,hI]
   refine CF (x:=a.eval x) hA ?_ hs
   simp[execOp,ho,hx]
  cases h
 .rename_i k u p s m o' h1
  split at h
  .rename_i g fp' hg
   simp only[rV,jS,jP]at h
   obtain⟨rfl,rfl,rfl⟩:=h
   obtain⟨g1,g2⟩:=hc
   have hs:=AL hE h1 g1
   obtain⟨b,off,hx,_⟩:=bJ hA (show SC (hp w) fz lab I H (.q k u p s m o') (a.eval x) from hs) hg g2
   refine CF (x:=a.eval x) hA ?_ hs
   simp[execOp,ho,hx]
  cases h
 .rename_i cc _ _ h1
  split at h
  .rename_i hok
   simp only[rV,jS,jP]at h
   obtain⟨rfl,rfl,rfl⟩:=h
   have hs:=AL hE h1 hc
   have hnn:(∃p,a.eval x= .pointer (some p))∨∃f u v,a.eval x= .func (.func f) u v:=by
    generalize a.eval x=q at*
    unfold gR at hok
    split at hok
    .cases hok
    .have:=hs.2;cases this with|d _ _ _ r=>cases r;exact .inl ⟨_,rfl⟩
    .have:=hs.2;cases this with|dp _ _ _ r=>cases r;exact .inl ⟨_,rfl⟩
    .have:=hs.2;cases this;exact .inr ⟨_,_,_,rfl⟩
    .have:=hs.2;cases this;exact .inr ⟨_,_,_,rfl⟩
    cases hok
   refine CF hA ?_ hs
   rcases hnn with⟨p,hx⟩|⟨f,u,v,hx⟩<;>simp[execOp,ho,hx]
  cases h
 cases h
end
open Go.RowKit
section
variable {P:Program}{o:Oper}{a:Act}{w w0:World}{X:Ctx}{I:Nm}{lab:Lab}{fz:Nat->Prop}{E:Env}{H:Hp}{c:Prop}{e:Eff}{fp:List Nat}
theorem run_places{w:World}:∀{fs:List Field} {pl:List (Nat×Nat)},OT P fs=some pl->(fs.mapM (λf=>do pure (f.offset,<- sizeOf f.type):Field->Sem (Nat×Nat))).run P w= .ok pl w
 |[],pl,h=>by simp only[OT,jS]at h;subst h;simp
 |f::fs,pl,h=>by
  simp only[OT]at h
  split at h
  .rename_i n l hn hl
   simp only[jS]at h
   subst h
   have ih:=run_places (w:=w) hl
   simp only[List.mapM_cons,Sem.run_bind,run_sizeOf hn,Result.andThen_ok,Sem.run_pure,ih]
  simp at h
def gW(h:Bf)(fz:Nat->Prop)(lab:Lab)(I:Nm)(H:Hp):List (Nat×SV)->List (Nat×Value)->Prop
 |[],[]=>True
 |(i,v)::r,(j,x)::s=>i=j/\Ap h fz lab I H v x/\gW h fz lab I H r s
 |_,_=>False
theorem OY(hE:AtE (hp w) fz lab I H E a)(hW:WFE E H):∀{xs:List (Nat×Operand)} {vs:List (Nat×SV)},reads E xs=some vs->KO E xs->
  gW (hp w) fz lab I H vs (xs.map λx=>(x.1,a.eval x.2))/\∀v∈vs,Dom H v.2.names
 |[],vs,h,_=>by simp only[reads,jS]at h;subst h;exact⟨trivial,by simp⟩
 |(i,x)::xs,vs,h,hg=>by
  simp only[reads]at h
  split at h
  .rename_i v l hv hl
   simp only[jS]at h
   subst h
   obtain⟨ih1,ih2⟩:=OY hE hW hl hg.2
   refine⟨⟨rfl,AL hE hv hg.1,ih1⟩,?_⟩
   intro u hu
   rcases List.mem_cons.1 hu with rfl|hu
   .exact hW.rd hv hg.1
   exact ih2 u hu
  cases h
theorem Lz(hE:AtE (hp w) fz lab I H E a)(hW:WFE E H):∀{xs:List Operand} {vs:List SV},GN E xs=some vs->FS E xs->
  vs.length=xs.length/\(∀(j:Nat) (v:SV) (x:Value),vs[j]?=some v->(xs.map a.eval)[j]?=some x->Ap (hp w) fz lab I H v x)/\∀v∈vs,Dom H v.names
 |[],vs,h,_=>by simp only[GN,jS]at h;subst h;simp
 |x::xs,vs,h,hg=>by
  simp only[GN]at h
  split at h
  .rename_i v l hv hl
   simp only[jS]at h
   subst h
   obtain⟨ih1,ih2,ih3⟩:=Lz hE hW hl hg.2
   refine⟨by simp[ih1],λj u y h1 h2=>?_,λu hu=>?_⟩
   .cases j with
    |zero=>simp at h1 h2;subst h1;subst h2;exact AL hE hv hg.1
    |succ j=>grind
   rcases List.mem_cons.1 hu with rfl|hu
   .exact hW.rd hv hg.1
   exact ih3 u hu
  cases h
theorem l7{cells:List C}(hc:ER (hp w) fz lab I H cells arr){n:Nat}(hx:SC (hp w) fz lab I H cc x):ER (hp w) fz lab I H (cells.set n cc) (arr.setIfInBounds n x):=by
 refine⟨by simp[hc.1],λj c hj=>?_⟩
 rw[getElem?_set]at hj
 split at hj
 .rename_i e;subst e
  split at hj
  .rename_i hl
   simp only[jS]at hj;subst hj
   exact⟨x,by rw[Array.getElem?_setIfInBounds_self_of_lt (by rw[hc.1];exact hl)],hx⟩
  cases hj
 rename_i e
 obtain⟨y,y1,y2⟩:=hc.2 j c hj
 exact⟨y,by rw[Array.getElem?_setIfInBounds_ne e];exact y1,y2⟩
theorem Yn:∀(vs:List C) (vals:List Value) (off s:Nat) (cells:List C) (arr:Array Value),ER (hp w) fz lab I H cells arr->vals.length=vs.length->(∀(j:Nat) (c:C),vs[j]?=some c->∃y,vals[j]?=some y/\SC (hp w) fz lab I H c y)->
  ER (hp w) fz lab I H (setAll cells (off+s) vs) ((vals.zipIdx s).foldl (λ(cs:Array Value) (x:Value×Nat)=>cs.setIfInBounds (off+x.2) x.1) arr)
 |[],[],off,s,cells,arr,h,_,_=>h
 |v::vs,[],off,s,cells,arr,h,hl,_=>by simp at hl
 |[],x::vals,off,s,cells,arr,h,hl,_=>by simp at hl
 |v::vs,x::vals,off,s,cells,arr,h,hl,hp'=>by
  simp only[List.zipIdx_cons,List.foldl_cons,setAll]
  obtain⟨y,y1,y2⟩:=hp' 0 v rfl
  simp only[getElem?_cons_zero,jS]at y1
  subst y1
  exact Yn vs vals off (s+1) _ _ (l7 h y2) (by simpa using hl) (λj c hj=>by have:=hp' (j+1) c (by simpa using hj);simpa using this)
theorem Qj(place:Nat->Option (Nat×Nat)):∀(vs:List (Nat×SV)) (xs:List (Nat×Value)) (cs cs':List C) (arr:Array Value),gW (hp w) fz lab I H vs xs->ER (hp w) fz lab I H cs arr->HP place cs vs=some cs'->
  ∃arr',Instr.fill place arr xs=some arr'/\ER (hp w) fz lab I H cs' arr'
 |[],[],cs,cs',arr,_,hc,h=>by simp only[HP,jS]at h;subst h;exact⟨arr,rfl,hc⟩
 |[],_::_,cs,cs',arr,hv,_,_=>hv.elim
 |_::_,[],cs,cs',arr,hv,_,_=>hv.elim
 |(i,v)::vs,(j,x)::xs,cs,cs',arr,hv,hc,h=>by
  obtain⟨rfl,hx,hr⟩:=hv
  simp only[HP]at h
  split at h
  .cases h
  rename_i off size hp'
  split at h
  .rename_i hcond
   obtain⟨h0,h1,h2⟩:=hcond
   obtain⟨q1,q2⟩:=Jh hx h0
   have hstep:=Yn v.cells x.cells.toList off 0 cs arr hc (by simpa using q1) (λj c hj=>by simp_all)
   rw[Nat.add_zero]at hstep
   obtain⟨arr',g1,g2⟩:=Qj place vs xs _ cs' _ hr hstep h
   refine⟨arr',?_,g2⟩
   simp only[Instr.fill,hp']
   have hsz:x.cells.size=size:=by rw[q1,h1]
   have hcnd:(x.cells.size≠size||decide (off+x.cells.size > arr.size))=false:=by
    simp[hsz,hc.1];omega
   rw[if_neg (by rw[hcnd];simp),<- g1]
   congr 1
   obtain⟨l,hl⟩:∃l:List Value,x.cells=l.toArray:=⟨x.cells.toList,by simp⟩
   rw[hl]
   simp[Array.zipIdx_toArray]
  cases h
theorem Yo(place:Nat->Option (Nat×Nat)){Q:C->Prop}:∀(vs:List (Nat×SV)) (cs cs':List C),HP place cs vs=some cs'->(∀c∈cs,Q c)->(∀v∈vs,∀c∈v.2.cells,Q c)->∀c∈cs',Q c
 |[],cs,cs',h,hq,_=>by simp only[HP,jS]at h;subst h;exact hq
 |(i,v)::vs,cs,cs',h,hq,hv=>by
  simp only[HP]at h
  split at h
  .cases h
  split at h
  .refine Yo place vs _ _ h ?_ (λu hu=>hv u (List.mem_cons_of_mem _ hu))
   have:∀(r:List C) (o:Nat) (l:List C),(∀c∈l,Q c)->(∀c∈r,Q c)->∀c∈setAll l o r,Q c:=by
    intro r
    induction r with
    |nil=>intro o l h1 _;exact h1
    |cons x r ih=>
    intro o l h1 h2
    refine ih (o+1) (l.set o x) ?_ λc hc=>h2 c (List.mem_cons_of_mem _ hc)
    intro c hc
    rcases List.mem_or_eq_of_mem_set hc with hc|rfl
    .exact h1 c hc
    simp_all
   exact this _ _ _ hq (hv _ (List.mem_cons_self ..))
  cases h
theorem OZ(place:Nat->Option (Nat×Nat)):∀(vs:List (Nat×SV)) (cs cs':List C),HP place cs vs=some cs'->cs'.length=cs.length
 |[],cs,cs',h=>by simp only[HP,jS]at h;subst h;rfl
 |(i,v)::vs,cs,cs',h=>by
  simp only[HP]at h
  split at h
  .cases h
  split at h
  .rw[OZ place vs _ _ h,S6]
  cases h
theorem PY(place:Nat->Option (Nat×Nat)){vs:List (Nat×SV)}{cs cs':List C}(h:HP place cs vs=some cs')(hc:Dom H (cs.flatMap C.names))(hv:∀v∈vs,Dom H v.2.names):Dom H (cs'.flatMap C.names):=by
 intro n hn
 obtain⟨x,hx,hn⟩:=mem_flatMap.1 hn
 refine Yo place (Q:=λc=>∀n∈c.names,(H n).isSome=true) vs cs cs' h (λc hc' n hn=>hc n (mem_flatMap.2 ⟨c,hc',hn⟩)) ?_ x hx n hn
 intro v hv' c hc' n hn
 refine hv v hv' n ?_
 obtain⟨i,v⟩:=v
 cases v with
 |one c0=>simp[SV.cells]at hc';subst hc';exact hn
 |agg l=>exact mem_flatMap.2 ⟨c,hc',hn⟩
 |tup l=>simp[SV.cells]at hc'
theorem gX(T:TypeId)(ps:Array (Nat×Operand))(ho:o.op= .build T ps)(hE:AtE (hp w) fz lab I H E a)(hW:WFE E H)(hA:AtW X w0 I lab fz H w)(h:Nn P E T ps.toList=some (c,e,fp))(hc:c):DN P o a w X w0 I lab fz H e:=by
 have hmap:(ps.map λ(x:Nat×Operand)=>(x.1,a.eval x.2)).toList=ps.toList.map λx=>(x.1,a.eval x.2):=by rw[toList_map]
 simp only[Nn]at h
 split at h
 .rename_i pl z vs hpl hz hr
  simp only[bind_eq_some_iff,rV,jS,jP]at h
  obtain⟨cs,hf,rfl,rfl,rfl⟩:=h
  obtain⟨hg,hok⟩:=hc
  obtain⟨hm,hn⟩:=OY hE hW hr hg
  unfold Dp at hpl
  split at hpl
  .rename_i fs hu
   have hzc:=Jh (w:=w) (fz:=fz) (lab:=lab) (I:=I) (H:=H) (LW hok) (Iy hok)
   obtain⟨arr',hfill,hden⟩:=Qj (pl[·]?) vs _ _ cs _ hm hzc hf
   have hp':=run_places (w:=w) hpl
   have hmm:(fs.mapM (λf=>do pure (f.offset,<- sizeOf f.type):Field->Sem (Nat×Nat))).run P w= .ok pl.toArray w:=by
    rw[Array.mapM_eq_mapM_toList,Sem.run_map,hp'];rfl
   have hplace:(λi:Nat=>(pl.toArray)[i]?)=λi:Nat=>pl[i]?:=by funext i;simp
   refine CF (x:=.agg arr') hA ?_ ⟨arr',rfl,hden⟩
   simp only[execOp,ho,Instr.build,Sem.run_bind,GS hz,Result.andThen_ok,run_underlying hu,hmm,hmap,hplace,hfill,Sem.run_pure]
  cases hpl
 split at h
 .rename_i n e' z vs hT hz hr
  split at h
  .rename_i s hs
   simp only[bind_eq_some_iff,rV,jS,jP]at h
   obtain⟨cs,hf,rfl,rfl,rfl⟩:=h
   obtain⟨hg,hok⟩:=hc
   obtain⟨hm,hn⟩:=OY hE hW hr hg
   have hzc:=Jh (w:=w) (fz:=fz) (lab:=lab) (I:=I) (H:=H) (LW hok) (Iy hok)
   obtain⟨arr',hfill,hden⟩:=Qj (λi=>some (i*s,s)) vs _ _ cs _ hm hzc hf
   refine CF (x:=.agg arr') hA ?_ ⟨arr',rfl,hden⟩
   simp only[execOp,ho,Instr.build,Sem.run_bind,GS hz,Result.andThen_ok,run_underlying (bH hT),run_sizeOf hs,hmap,hfill,Sem.run_pure]
  cases h
 cases h
theorem KI(s:Nat):∀(n:Nat) (l:List C),(Kc s n l).length=n
 |0,_=>rfl
 |n+1,l=>by simp[Kc,KI s n]
theorem bL(s:Nat):∀(n:Nat) (l:List C) (i:Nat) (r:List C),(Kc s n l)[i]?=some r->i<n/\r=(l.drop (i*s)).take s
 |0,l,i,r,h=>by simp[Kc]at h
 |n+1,l,0,r,h=>by simp[Kc]at h;subst h;simp
 |n+1,l,i+1,r,h=>by
  simp only[Kc,getElem?_cons_succ]at h
  obtain⟨h1,h2⟩:=bL s n _ i r h
  refine⟨by omega,?_⟩
  rw[h2,List.drop_drop]
  congr 2
  rw[add_mul];omega
theorem KJ{α:Type}:∀(n:Nat) (l:List α),(Mv n l).length=n*l.length
 |0,l=>by simp[Mv]
 |n+1,l=>by simp[Mv,KJ n l,add_mul];omega
theorem V0{α:Type}:∀(n:Nat) (l:List α) (i:Nat) (x:α),(Mv n l)[i]?=some x->l[i % l.length]?=some x
 |0,l,i,x,h=>by simp[Mv]at h
 |n+1,l,i,x,h=>by
  simp only[Mv,getElem?_append]at h
  split at h
  .rename_i hlt;rw[Nat.mod_eq_of_lt hlt];exact h
  rename_i hge
  have:=V0 n l _ x h
  rwa [<- Nat.mod_eq_sub_mod (by omega)]at this
theorem bM{n:Nat}{l:List α}{x:α}(h:x∈Mv n l):x∈l:=by
 obtain⟨i,hi⟩:=mem_iff_getElem?.1 h
 exact mem_of_getElem? (V0 n l i x hi)
theorem V1{z:Value}(hok:okV z=true){n:Nat}(hs:0<s)(hz:(ofV z).cells.length=s):z.cells.size=s/\ER (hp w) fz lab I H (Mv n (ofV z).cells) (madeCells z.cells (n*s)):=by
 obtain⟨q1,q2⟩:=Jh (w:=w) (fz:=fz) (lab:=lab) (I:=I) (H:=H) (LW hok) (Iy hok)
 have hsz:z.cells.size=s:=by rw[q1,hz]
 refine⟨hsz,by rw[size_madeCells,KJ,hz],λj c hj=>?_⟩
 have hjl:j<n*s:=by have:=(List.getElem?_eq_some_iff.1 hj).1;rw[KJ,hz]at this;exact this
 have h1:=V0 n _ j c hj
 rw[hz]at h1
 obtain⟨y,y1,y2⟩:=q2 _ c h1
 refine⟨y,?_,y2⟩
 have hlt:j % s<z.cells.size:=by rw[hsz];exact Nat.mod_lt _ hs
 simp only[madeCells,Array.getElem?_map,Array.getElem?_range,hjl,if_true,map_some,hsz]
 rw[getElem!_pos z.cells (j % s) hlt]
 rw[Array.getElem?_eq_getElem hlt]at y1
 exact y1
theorem bN{n:Nat}{cs:List C}(hd:ER (hp w) fz lab I H cs arr)(hl:cs.length=n*s)(hst:cs.all C.stor=true)(hdom:Dom H (cs.flatMap C.names)):
  ∀(i:Nat) (r:List C),(Kc s n cs)[i]?=some r->r.length=s/\∀(j:Nat) (c:C),r[j]?=some c->c.stor=true/\Dom H c.names/\∃y,arr[i*s+j]?=some y/\Den (hp w) fz lab I [] c y:=by
 intro i r hr
 obtain⟨h1,rfl⟩:=bL s n cs i r hr
 have:(i+1)*s<=n*s:=mul_le_mul_right s h1
 rw[add_mul]at this
 refine⟨by simp;omega,λj c hj=>?_⟩
 have hjs:j<s:=by have:=(List.getElem?_eq_some_iff.1 hj).1;simp at this;omega
 rw[getElem?_take,if_pos hjs,getElem?_drop]at hj
 have hs:c.stor=true:=all_eq_true.1 hst c (mem_of_getElem? hj)
 obtain⟨y,y1,y2⟩:=hd.2 _ c hj
 exact⟨hs,λm hm=>hdom m (mem_flatMap.2 ⟨c,mem_of_getElem? hj,hm⟩),y,y1,Ju hs y2⟩
theorem Pres.trans{h h'':Bf}{fz fz'':Nat->Prop}{I I'':Nm}{H H'':Hp}(a:Pres h h' fz fz' I I' H H')(b:Pres h' h'' fz' fz'' I' I'' H' H'')(hd:∀k,(H k).isSome=true->(H' k).isSome=true):Pres h h'' fz fz'' I I'' H H'':=
 ⟨λx hx=>⟨(b.z x (a.z x hx).1).1,((b.z x (a.z x hx).1).2).trans (a.z x hx).2⟩,λk hk=>(b.n k (hd k hk)).trans (a.n k hk),λk u p x hk hv=>b.w k u p x (hd k hk) (a.w k u p x hk hv)⟩
theorem ZU(hA:AtW X w0 I lab fz H w){z:List C}(hk:H k=some (.vec u z es)){z':List D}{es':List (List D)}(hz:GD z=some z')(he:EZ es=some es'):
  ∃lab' fz',AtW X w0 I lab' fz' (upd H k .dead) w/\Pres (hp w) (hp w) fz fz' I I H (upd H k .dead)/\Rd (hp w) fz' (.sl z' es') (I k).v/\
   ∀i j,i<es'.length->Rd (hp w) fz' (.pt (some ((es'.getD i z').drop j))) ((I k).p i j):=by
 classical
 let lab':Lab:=λb=>match lab b with
  |some (n::ρ)=>if n=k then none else some (n::ρ)
  |x=>x
 let fz':Nat->Prop:=λb=>fz b∨∃ρ,lab b=some (k::ρ)
 obtain⟨m1,m2,m3⟩:=hA.h k _ hk
 have hlo:∀n,n≠k->∀b ρ,lab b=some ([n]++ρ)->lab' b=some ([n]++ρ):=by intro n h b ρ hb;simp[lab',hb,h]
 have hzz:∀b,fz b->fz' b/\hp w b=hp w b:=λb hb=>⟨.inl hb,rfl⟩
 have hsub:∀b π,lab' b=some π->lab b=some π:=by grind
 have hcl:∀(i j:Nat) (cs:List C) (c:C),es[i]?=some cs->cs[j]?=some c->c.names=[]:=by
  intro i j cs c h1 h2
  obtain⟨g1,g2⟩:=Sg he
  have hi:i<es'.length:=by rw[g1];exact(List.getElem?_eq_some_iff.1 h1).1
  obtain⟨cs2,k1,k2⟩:=g2 i es'[i] (getElem?_eq_getElem hi)
  rw[h1]at k1;simp only[jS]at k1;subst k1
  obtain⟨g3,g4⟩:=Ki k2
  have hj:j<es'[i].length:=by rw[g3];exact(List.getElem?_eq_some_iff.1 h2).1
  obtain⟨c2,k3,k4⟩:=g4 j es'[i][j] (getElem?_eq_getElem hj)
  rw[h2]at k3;simp only[jS]at k3;subst k3
  exact kw k4
 have hrd:Rd (hp w) fz' (.sl z' es') (I k).v:=by
  refine A0Y (WC m3 hcl) (λb hb=>.inl hb) (by simp[toD,hz,he]) λb ρ hb=>.inr ⟨ρ,by simpa using hb⟩
 refine⟨lab',fz',⟨λk2 ch h=>?_,λk2 ch h=>?_,λb π hb=>hA.own b π (hsub b π hb),λb hb=>?_,λb hb=>?_,hA.kept,λp hp'=>⟨?_,(hA.fix p hp').2⟩⟩,⟨hzz,λ_ _=>rfl,?_⟩,hrd,?_⟩
 .exact Yb
 .exact kE
 .exact AAW
 .rcases hb with hb|⟨ρ,hb⟩
  .exact hA.fzo b hb
  .exact .inr (hA.own b _ hb).2
 .exact s8
 .intro n u2 p x hn hv
  by_cases e:n=k
  .subst e;exact Jz (BM _ _ _) hv
  .exact kF
 .intro i j hi
  have hvv:(I k).v=slV (I k).b (I k).len (I k).cap:=by simp[NV.v,m1]
  rw[hvv]at hrd
  generalize hD:D.sl z' es'=dd at hrd
  generalize hV:slV (I k).b (I k).len (I k).cap=vv at hrd
  cases hrd with
  |v x h1=>cases hD
  |nil zz _ _ _=>
   simp only[D.sl.injEq]at hD
   obtain⟨_,rfl⟩:=hD
   simp at hi
  |sl zz ees b off cap arr T m val hz hb hcap hl hc hr=>
   simp only[D.sl.injEq]at hD
   obtain⟨rfl,rfl⟩:=hD
   have hb2:(I k).b=some (b,off):=by
    cases hbb:(I k).b with
    |none=>simp[slV,hbb]at hV
    |some p=>
     obtain⟨b1,o1⟩:=p
     simp only[slV,hbb,map_some,Value.slice.injEq,jS,Addr.mk.injEq]at hV
     rw[hV.1.1,hV.1.2.1]
   have hpv:(I k).p i j= .pointer (some ⟨b,off+(i*z'.length+j),none⟩):=by
    simp only[NV.p,ptV,hb2,map_some,m2]
    rw[(Ki ‹GD z=some z'›).1]
   rw[hpv]
   have hgi:es'[i]?=some (es'.getD i z'):=by simp[List.getD,getElem?_eq_getElem hi]
   refine .pt _ b _ arr T m (λj'=>val i (j+j')) hz hb ?_ ?_
   .grind
   .simp_all
  |pnil=>cases hD
  |pt=>cases hD
  |mp=>cases hD
theorem vU{z:List C}{z':List D}{es':List (List D)}(hz:GD z=some z')(he:EZ es=some es')(h:I6 X w0 w I lab fz H (some (.one (.s t))) [(t,.vec 0 z es)] x w'):
  I6 X w0 w I lab fz H (some (.one (.d (.sl z' es')))) [(t,.dead)] x w':=by
 obtain⟨I',lab',fz',h1,h2,h3⟩:=h
 have hk:updH H [(t,.vec 0 z es)] t=some (.vec 0 z es):=by simp[updH,upd]
 obtain⟨lab2,fz2,q1,q2,q3,_⟩:=ZU h1 hk hz he
 have e:upd (updH H [(t,.vec 0 z es)]) t .dead=updH H [(t,.dead)]:=by
  funext n;simp only[upd,updH];split<;>rfl
 rw[e]at q1 q2
 refine⟨I',lab2,fz2,q1,λs hs=>?_,h3.trans q2 λk hk=>?_⟩
 .simp only[jS]at hs
  subst hs
  have:=(h2 _ rfl).2
  cases this
  exact⟨rfl,.d _ _ _ q3⟩
 .simp only[updH,upd];split
  .rfl
  .exact hk
theorem WF(T:TypeId)(n:Nat)(ps:Array (Nat×Operand))(t:Nat)(ho:o.op= .buildSlice T n ps)(hE:AtE (hp w) fz lab I H E a)(hW:WFE E H)(hA:AtW X w0 I lab fz H w)(ht:H t=none)
  (h:I5 P E T n ps.toList t=some (c,e,fp)) (hc:c):DN P o a w X w0 I lab fz H e:=by
 simp only[I5]at h
 split at h
 .rename_i e' vs he hr
  split at h
  .rename_i s z hs hz
   simp only[bind_eq_some_iff,jS,jP]at h
   obtain⟨cs,hf,rfl,rfl,rfl⟩:=h
   obtain⟨hg,hok,hmax,hs0,hzl,hst⟩:=hc
   obtain⟨hm,hn⟩:=OY hE hW hr hg
   obtain⟨hzs,hbase⟩:=V1 (w:=w) (fz:=fz) (lab:=lab) (I:=I) (H:=H) (n:=n) hok hs0 hzl
   obtain⟨arr',hfill,hden⟩:=Qj (λi=>some (i*s,s)) vs _ _ cs _ hm hbase hf
   have hcl:cs.length=n*s:=by rw[OZ _ vs _ _ hf,KJ,hzl]
   have hdom:Dom H (cs.flatMap C.names):=PY _ hf (by
    intro q hq
    obtain⟨x,hx,hq⟩:=mem_flatMap.1 hq
    have hx:=bM hx
    have:=Gk (ofV z) (Iy hok)
    rw[HS hok]at this
    have:q∈(ofV z).cells.flatMap C.names:=mem_flatMap.2 ⟨x,hx,hq⟩
    rw[‹(ofV z).cells.flatMap C.names=[]›]at this
    cases this) hn
   have hu:=EP he
   have hmap:(ps.map λ(x:Nat×Operand)=>(x.1,a.eval x.2)).toList=ps.toList.map λx=>(x.1,a.eval x.2):=by rw[toList_map]
   have hbig:¬(n*s > 2 ^ 24):=by omega
   refine .inl ⟨_,_,?_,Md hA w rfl rfl rfl rfl t ht (ofV z).cells (Kc s n cs) arr' e' n (by rw[KI];exact Nat.le_refl _) (by rw[hzl,hden.1,hcl];exact Nat.le_refl _) (IY (Sa z)) (by rw[hzl];exact bN hden hcl hst hdom) (.one (.s t)) _ (.inr ⟨rfl,rfl⟩)⟩
   exact OF
  .cases h
 .cases h
theorem oz(T:TypeId)(n:Nat)(ps:Array (Nat×Operand))(t:Nat)(ho:o.op= .buildSlice T n ps)(hE:AtE (hp w) fz lab I H E a)(hW:WFE E H)(hA:AtW X w0 I lab fz H w)(ht:H t=none)
  (h:U1 P E T n ps.toList t=some (c,e,fp)) (hc:c):DN P o a w X w0 I lab fz H e:=by
 simp only[U1]at h
 split at h
 .rename_i e' vs he hr
  split at h
  .rename_i s z hs hz
   simp only[bind_eq_some_iff]at h
   obtain⟨cs,hf,h⟩:=h
   split at h
   case h_2=>cases h
   rename_i z' es' hzd hed
   simp only[jS,jP]at h
   obtain⟨rfl,rfl,rfl⟩:=h
   obtain⟨hg,hok,hmax,hs0,hzl,hst⟩:=hc
   obtain⟨hm,hn⟩:=OY hE hW hr hg
   obtain⟨hzs,hbase⟩:=V1 (w:=w) (fz:=fz) (lab:=lab) (I:=I) (H:=H) (n:=n) hok hs0 hzl
   obtain⟨arr',hfill,hden⟩:=Qj (λi=>some (i*s,s)) vs _ _ cs _ hm hbase hf
   have hcl:cs.length=n*s:=by rw[OZ _ vs _ _ hf,KJ,hzl]
   have hdom:Dom H (cs.flatMap C.names):=PY _ hf (by
    intro q hq
    obtain⟨x,hx,hq⟩:=mem_flatMap.1 hq
    have hx:=bM hx
    have:=Gk (ofV z) (Iy hok)
    rw[HS hok]at this
    have:q∈(ofV z).cells.flatMap C.names:=mem_flatMap.2 ⟨x,hx,hq⟩
    rw[‹(ofV z).cells.flatMap C.names=[]›]at this
    cases this) hn
   have hu:=EP he
   have hmap:(ps.map λ(x:Nat×Operand)=>(x.1,a.eval x.2)).toList=ps.toList.map λx=>(x.1,a.eval x.2):=by rw[toList_map]
   have hbig:¬(n*s > 2 ^ 24):=by omega
   refine .inl ⟨_,_,?_,vU hzd hed (Md hA w rfl rfl rfl rfl t ht (ofV z).cells (Kc s n cs) arr' e' n (by rw[KI];exact Nat.le_refl _) (by rw[hzl,hden.1,hcl];exact Nat.le_refl _) (IY (Sa z)) (by rw[hzl];exact bN hden hcl hst hdom) (.one (.s t)) _ (.inr ⟨rfl,rfl⟩))⟩
   exact OF
  .cases h
 .cases h
theorem Mf{r:Res}(h:bC k r=some (c,e,fp)):∃f,r=some (c,e,f)/\fp=k::f:=by
 cases r with
 |none=>cases h
 |some p=>
 obtain⟨c',e',f⟩:=p
 simp only[bC,jS,jP]at h
 obtain⟨rfl,rfl,rfl⟩:=h
 exact⟨f,rfl,rfl⟩
theorem vV(T:TypeId)(n:Nat)(ps:Array (Nat×Operand))(t:Nat)(ho:o.op= .buildSlice T n ps)(hE:AtE (hp w) fz lab I H E a)(hW:WFE E H)(hA:AtW X w0 I lab fz H w)(ht:H t=none)
  (h:RV P E H T n ps.toList t=some (c,e,fp)) (hc:c):DN P o a w X w0 I lab fz H e:=by
 unfold RV at h
 split at h
 .obtain⟨f,h,_⟩:=Mf h;exact oz T n ps t ho hE hW hA ht h hc
 .obtain⟨f,h,_⟩:=Mf h;exact WF T n ps t ho hE hW hA ht h hc
theorem rS{T n:Nat}{z:Value}{y:Nat}(h1:Aq P T=some n)(h2:D6 P T=some z)(h3:GY P T=some y):∃i,P.info? T=some i/\i.size=n/\i.zero=some z/\i.bytes=y:=by
 unfold Aq at h1
 unfold D6 at h2
 unfold GY at h3
 simp only[map_eq_some_iff]at h1 h3
 rw[bind_eq_some_iff]at h2
 obtain⟨i,hi,rfl⟩:=h1
 obtain⟨j,hj,hz⟩:=h2
 obtain⟨k,hk,rfl⟩:=h3
 rw[hi]at hj hk
 simp only[jS]at hj hk
 subst hj;subst hk
 exact⟨i,hi,rfl,hz,rfl⟩
theorem Xt(T:TypeId)(x y:Operand)(t:Nat)(ho:o.op= .makeSlice T x y)(hE:AtE (hp w) fz lab I H E a)(hA:AtW X w0 I lab fz H w)(ht:H t=none)
  (h:Ix P E T x y t=some (c,e,fp)) (hc:c):DN P o a w X w0 I lab fz H e:=by
 simp only[Ix]at h
 split at h
 .rename_i e' n m he h1 h2
  split at h
  .rename_i s z yb hs hz hy
   simp only[jS,jP]at h
   obtain⟨rfl,rfl,rfl⟩:=h
   obtain⟨g1,g2,rfl,hn,hb,h63,hok,hs0,hzl⟩:=hc
   have e1:=ES (AL hE h1 g1)
   have e2:=ES (AL hE h2 g2)
   obtain⟨i,hi,rfl,hz',rfl⟩:=rS hs hz hy
   have hrun:=run_make (P:=P) w T e' i z (EP he) hi hz' .i64 .i64 m m hn (Int.le_refl _) (by rw[Int.mul_comm];exact hb) h63
   obtain⟨hzs,hbase⟩:=V1 (w:=w) (fz:=fz) (lab:=lab) (I:=I) (H:=H) (n:=m.toNat) hok hs0 hzl
   have hzst:(ofV z).cells.all C.stor=true:=by
    cases z with
    |agg cs=>simp[ofV,SV.cells,C.stor]
    |tuple vs=>simp[okV]at hok
    |_=>rfl
   have hzn:∀c∈(ofV z).cells,c.names=[]:=by
    intro c hc
    have:=Gk (ofV z) (Iy hok)
    rw[HS hok]at this
    have hh:=List.flatMap_eq_nil_iff.1 this c hc
    exact hh
   refine .inl ⟨_,_,?_,Md hA w rfl rfl rfl rfl t ht (ofV z).cells (List.replicate m.toNat (ofV z).cells) (madeCells z.cells (m.toNat*i.size)) e' m.toNat (by simp) (by rw[size_madeCells,hzl];exact Nat.le_refl _) (IY (Sa z)) ?_ (.one (.s t)) _ (.inr ⟨rfl,rfl⟩)⟩
   .simp only[execOp,ho,e1,e2,Sem.run_bind,hrun,Result.andThen_ok,Sem.run_pure]
    simp[slV]
   .intro i2 r hr
    rw[List.getElem?_replicate]at hr
    split at hr
    .rename_i hlt
     simp only[jS]at hr
     subst hr
     refine⟨rfl,λj c hj=>?_⟩
     have hcs:c.stor=true:=all_eq_true.1 hzst c (mem_of_getElem? hj)
     obtain⟨q1,q2⟩:=Jh (w:=w) (fz:=fz) (lab:=lab) (I:=I) (H:=H) (LW hok) (Iy hok)
     obtain⟨v,v1,v2⟩:=q2 j c hj
     have hjl:j<i.size:=by have:=(List.getElem?_eq_some_iff.1 hj).1;omega
     have hij:i2*i.size+j<m.toNat*i.size:=by
      have:(i2+1)*i.size<=m.toNat*i.size:=mul_le_mul_right _ hlt
      rw[add_mul]at this;omega
     have hmod:(i2*i.size+j) % i.size=j:=by
      rw[Nat.add_comm,Nat.mul_comm,Nat.add_mul_mod_self_left]
      exact Nat.mod_eq_of_lt hjl
     refine⟨hcs,(by rw[hzn c (mem_of_getElem? hj)];intro q hq;cases hq),v,?_,Ju hcs v2⟩
     rw[hzl]
     have hlt2:j<z.cells.size:=by rw[hzs];exact hjl
     simp only[madeCells,Array.getElem?_map,Array.getElem?_range,hij,if_true,map_some,hzs,hmod]
     rw[getElem!_pos z.cells j hlt2]
     rw[Array.getElem?_eq_getElem hlt2]at v1
     exact v1
    .cases hr
  .cases h
 .cases h
end
open Go.RowKit
theorem N8{α:Type}:∀(r:List α) (l:List α) (o n:Nat),(setAll l o r)[n]?=if o<=n/\n<o+r.length/\n<l.length then r[n-o]? else l[n]?
 |[],l,o,n=>by rw[if_neg (by simp;omega)];rfl
 |c::r,l,o,n=>by
  rw[setAll,N8 r]
  simp only[List.length_set,List.length_cons]
  by_cases e:n=o
  .grind
  grind
section
variable {P:Program}{o:Oper}{a:Act}{w w0:World}{X:Ctx}{I:Nm}{lab:Lab}{fz:Nat->Prop}{E:Env}{H:Hp}{c:Prop}{e:Eff}{fp:List Nat}
theorem bO{b n o:Nat}{z:List C}{arr':Array Value}{vs:List C}{vals:List Value}(hlb:lab b=some π)(hzl:z.length=n)(hm:m<es.length)(ho:o+vs.length<=n)
  (hc:∀(i:Nat) (cs:List C),es[i]?=some cs->cs.length=n/\∀(j:Nat) (c:C),cs[j]?=some c->∃y,arr[off+i*n+j]?=some y/\Den (hp w) fz lab I (π++[i,j]) c y)
  (hvl:vals.length=vs.length) (hv:∀(j:Nat) (c:C),vs[j]?=some c->c.stor=true/\∃y,vals[j]?=some y/\Den (hp w) fz lab I [] c y)
  (hg:∀i,arr'[i]?=if off+m*n+o<=i/\i<off+m*n+o+vals.length then vals[i-(off+m*n+o)]? else arr[i]?)
  (hz:∀b,fz b->hp w' b=hp w b) (hne:∀c,c≠b->hp w' c=hp w c) :
  ∀(i:Nat) (cs:List C),(es.set m (setAll (es.getD m z) o vs))[i]?=some cs->cs.length=n/\∀(j:Nat) (c:C),cs[j]?=some c->∃y,arr'[off+i*n+j]?=some y/\Den (hp w') fz lab I (π++[i,j]) c y:=by
 have old:∀(i j:Nat) (cc:C) (y:Value),arr[off+i*n+j]?=some y->Den (hp w) fz lab I (π++[i,j]) cc y->(¬(off+m*n+o<=off+i*n+j/\off+i*n+j<off+m*n+o+vals.length))->∃y,arr'[off+i*n+j]?=some y/\Den (hp w') fz lab I (π++[i,j]) cc y:=by
  intro i j cc y h1 h2 h3
  refine⟨y,by rw[hg,if_neg h3];exact h1,Kb (λb hb=>⟨hb,hz b hb⟩) h2 _ (λc ρ hc=>⟨hc,hne c ?_⟩) λ_ _=>rfl⟩
  rintro rfl
  rw[hlb]at hc
  simp only[jS]at hc
  have:=congrArg List.length hc
  simp at this
 intro i cs hi
 rw[getElem?_set]at hi
 split at hi
 .rename_i e0;subst e0
  try rw[if_pos hm]at hi
  simp only[jS]at hi;subst hi
  obtain⟨q1,q2⟩:=hc m _ (FT (d:=z) hm)
  refine⟨by rw[S6];exact q1,λj c hj=>?_⟩
  rw[N8]at hj
  split at hj
  .rename_i hr
   obtain⟨d,rfl⟩:∃d,j=o+d:=⟨j-o,by omega⟩
   rw[show o+d-o=d by omega]at hj
   obtain⟨h1,y,h2,h3⟩:=hv d c hj
   refine⟨y,?_,DT (λb hb=>⟨hb,hz b hb⟩) (IC h1) h3 λ_ _=>rfl⟩
   rw[hg,if_pos (by rw[hvl];omega),<- h2]
   congr 1;omega
  .rename_i hr
   obtain⟨y,y1,y2⟩:=q2 j c hj
   have hjl:j<n:=by have:=(List.getElem?_eq_some_iff.1 hj).1;omega
   refine old m j c y y1 y2 ?_
   rw[hvl]
   intro hcon
   apply hr
   omega
 .rename_i e0
  obtain⟨q1,q2⟩:=hc i cs hi
  refine⟨q1,λj c hj=>?_⟩
  obtain⟨y,y1,y2⟩:=q2 j c hj
  have hjl:j<n:=by have:=(List.getElem?_eq_some_iff.1 hj).1;omega
  refine old i j c y y1 y2 ?_
  rw[hvl]
  intro hcon
  rcases Nat.lt_or_gt_of_ne e0 with h|h
  .have:(m+1)*n<=i*n:=mul_le_mul_right n h
   rw[add_mul]at this;omega
  .have:(i+1)*n<=m*n:=mul_le_mul_right n h
   rw[add_mul]at this;omega
theorem Yp{T n:Nat}{v:Value}{T':TypeId}(hn:Aq P T=some n)(hb:w.heap[b]?=some (.cells arr T' (0,0)))(hsz:v.cells.size=n)(hfit:off+n<=arr.size)(hone:∀u∈v.cells.toList,u.oneCell'=true):
  (storeVar T ⟨b,off,none⟩ v).run P w= .ok () (w.setCells b off v.cells.toList):=by
 have hst:=run_storeCells_cells (P:=P) b off v.cells.toList 0 w (λj hj=>by
   simp only[Nat.zero_add,Nat.add_zero,World.cell?,hb,isSome_none,jB,if_false]
   rw[Array.getElem?_eq_getElem (by simp at hj;omega)];rfl) (λj hj=>by simp[World.frozen?,hb]) hone
 simp only[Nat.add_zero]at hst
 have hne:¬(v.cells.size≠n):=by simp[hsz]
 simp only[storeVar,Sem.run_bind,run_sizeOf hn,Result.andThen_ok]
 rw[if_neg hne]
 exact hst
theorem gY(T:TypeId)(x y:Operand)(ho:o.op= .store T x y)(hod:o.dst=none)(hE:AtE (hp w) fz lab I H E a)(hW:WFE E H)(hA:AtW X w0 I lab fz H w)(h:Jv P E H T x y=some (c,e,fp))(hc:c):DN P o a w X w0 I lab fz H e:=by
 have src:∀{v:SV} {n:Nat},rdv E y=some v->rdg E y=true->v.tupB=false->v.cells.length=n->v.cells.all C.stor=true->
   (a.eval y).cells.size=n/\(∀u∈(a.eval y).cells.toList,u.oneCell'=true)/\(∀(j:Nat) (c:C),v.cells[j]?=some c->c.stor=true/\∃q,(a.eval y).cells.toList[j]?=some q/\Den (hp w) fz lab I [] c q):=by
  intro v n hv hg ht hl hst
  obtain⟨q1,q2⟩:=Jh (AL hE hv hg) ht
  refine⟨by rw[q1,hl],?_,?_⟩
  .intro u hu
   obtain⟨j,hj⟩:=mem_iff_getElem?.1 hu
   rw[getElem?_toList]at hj
   have hjl:j<v.cells.length:=by rw[<- q1];exact(Array.getElem?_eq_some_iff.1 hj).1
   obtain⟨q,q3,q4⟩:=q2 j _ (getElem?_eq_getElem hjl)
   rw[q3]at hj
   simp only[jS]at hj;subst hj
   exact A0X (Qc q4)
  .intro j c hj
   have hs:c.stor=true:=all_eq_true.1 hst c (mem_of_getElem? hj)
   obtain⟨q,q3,q4⟩:=q2 j c hj
   exact⟨hs,q,by rw[getElem?_toList];exact q3,Ju hs q4⟩
 simp only[Jv]at h
 split at h
 .rename_i k i j v n h1 h2 hn
  split at h
  .rename_i u z es hk
   simp only[jS,jP]at h
   obtain⟨rfl,rfl,rfl⟩:=h
   obtain⟨g1,g2,ht,hl,hn0,hi,hj,hst⟩:=hc
   obtain⟨s1,s2,s3⟩:=src h2 g2 ht hl hst
   obtain⟨b,off,cap,arr,T',hI,hlb,hh,hsz,hcap,hcc⟩:=OX hA hk hi
   have hx:a.eval x= .pointer (some ⟨b,off+(i*z.length+j),none⟩):=by
    have:=(AL hE h1 g1).2
    generalize a.eval x=q at*
    cases this;simp[NV.p,ptV,hI]
   have hhw:w.heap[b]?=some (.cells arr T' (0,0)):=hh
   have hrow:(i+1)*z.length<=cap*z.length:=mul_le_mul_right _ (by omega)
   rw[add_mul]at hrow
   have hfit:off+(i*z.length+j)+n<=arr.size:=by have:=hsz.1;omega
   obtain⟨arr',r1,r2,r3,r4,r5,r6,r7,r8⟩:=Il b T' (0,0) (a.eval y).cells.toList (off+(i*z.length+j)) w arr hhw (by simp[s1];omega)
   have hrun:=Yp (P:=P) hn hhw s1 hfit s2
   refine .inr (.inl ⟨_,?_,hod,Uz hA hk (b:=b) (ρ0:=[]) hlb r4 r5 r6 r7 r8 ?_ ?_ _⟩)
   .simp only[execOp,ho,hx,Instr.storeAt,Instr.sureAddr,Sem.run_bind,Sem.run_pure,Result.andThen_ok,hrun]
   .refine .inr ⟨b,off,cap,arr',T',by rw[hI];simp[NV.v],hlb,r1,⟨by rw[r2];exact hsz.1,hsz.2⟩,by simpa using hcap,?_⟩
    refine bO (o:=j) hlb rfl hi (by rw[hl];exact hj) hcc (by simp[s1,hl]) s3 (λq=>by simpa only[<- Nat.add_assoc] using r3 q) (λb' hb'=>r8 b' (by rintro rfl;have:=(hA.fzl b' hb').2;rw[hlb]at this;cases this)) r8
   intro i2 j2 r c2 q1 q2 nn hnn
   rw[getElem?_set]at q1
   split at q1
   .try rw[if_pos (by omega)]at q1
    simp only[jS]at q1;subst q1
    rw[N8]at q2
    split at q2
    .exact hW.rd h2 g2 nn (by rw[<- Gk v ht];exact mem_flatMap.2 ⟨c2,mem_of_getElem? q2,hnn⟩)
    exact hA.wf k _ hk nn (mem_flatMap.2 ⟨_,mem_of_getElem? (FT (d:=z) hi),mem_flatMap.2 ⟨c2,mem_of_getElem? q2,hnn⟩⟩)
   exact hA.wf k _ hk nn (mem_flatMap.2 ⟨_,mem_of_getElem? q1,mem_flatMap.2 ⟨c2,mem_of_getElem? q2,hnn⟩⟩)
  cases h
 .rename_i k u p s m o' v n h1 h2 hn
  split at h
  .rename_i u' z es hk
   split at h
   .rename_i z' es' hj
    simp only[jS,jP]at h
    obtain⟨rfl,rfl,rfl⟩:=h
    obtain⟨g1,g2,rfl,rfl,ht,hl,hn0,hi,hm,ho',hst,hnm⟩:=hc
    obtain⟨s1,s2,s3⟩:=src h2 g2 ht hl hst
    obtain⟨yv,y1,y2⟩:=AL hE h1 g1
    obtain⟨hden,hat⟩:=Nu hA hk hi hj y1
    obtain⟨hbv,hbase⟩:=Ig hA hk
    obtain⟨hvec,hcl⟩:=Ik hden
    rcases hvec with⟨rfl,_⟩|⟨b,off,cap,arr,T',rfl,hlb,hh,hsz,hcap,hcc⟩
    .simp at hm
    have hx:a.eval x= .pointer (some ⟨b,off+(m*z'.length+o'),none⟩):=by rw[y2];rfl
    have hhw:w.heap[b]?=some (.cells arr T' (0,0)):=hh
    have hrow:(m+1)*z'.length<=cap*z'.length:=mul_le_mul_right _ (by omega)
    rw[add_mul]at hrow
    have hfit:off+(m*z'.length+o')+n<=arr.size:=by have:=hsz.1;omega
    obtain⟨arr',r1,r2,r3,r4,r5,r6,r7,r8⟩:=Il b T' (0,0) (a.eval y).cells.toList (off+(m*z'.length+o')) w arr hhw (by simp[s1];omega)
    have hrun:=Yp (P:=P) hn hhw s1 hfit s2
    have hzb:∀b',fz b'->hp (w.setCells b (off+(m*z'.length+o')) (a.eval y).cells.toList) b'=hp w b':=λb' hb'=>r8 b' (by rintro rfl;have:=(hA.fzl b' hb').2;rw[hlb]at this;cases this)
    have hrows:=bO (w:=w) (w':=w.setCells b (off+(m*z'.length+o')) (a.eval y).cells.toList) (I:=I) (z:=z') (o:=o') hlb rfl hm (by rw[hl];exact ho') hcc (by simp[s1,hl]) s3 (λq=>by simpa only[<- Nat.add_assoc] using r3 q) hzb r8
    have hclose:∀(i2 j2:Nat) (cs:List C) (c2:C),(es'.set m (setAll (es'.getD m z') o' v.cells))[i2]?=some cs->cs[j2]?=some c2->c2.names=[]:=by
     intro i2 j2 cs c2 q1 q2
     rw[getElem?_set]at q1
     split at q1
     .try rw[if_pos (by omega)]at q1
      simp only[jS]at q1;subst q1
      rw[N8]at q2
      split at q2
      .exact List.flatMap_eq_nil_iff.1 hnm c2 (mem_of_getElem? q2)
      exact hcl m _ _ c2 (FT (d:=z') hm) q2
     exact hcl i2 j2 cs c2 q1 q2
    have hnew:Den (hp (w.setCells b (off+(m*z'.length+o')) (a.eval y).cells.toList)) fz lab I ([k]++flatP p) (.ov z' (es'.set m (setAll (es'.getD m z') o' v.cells))) (slV (some (b,off)) es'.length cap):=by
     refine WC (.inr ⟨b,off,cap,arr',T',by simp,hlb,r1,⟨by rw[r2];exact hsz.1,hsz.2⟩,by simpa using hcap,hrows⟩) hclose
    refine .inr (.inl ⟨_,?_,hod,Uz hA hk (b:=b) (ρ0:=flatP p) hlb r4 r5 r6 r7 r8 ?_ ?_ _⟩)
    .simp only[execOp,ho,hx,Instr.storeAt,Instr.sureAddr,Sem.run_bind,Sem.run_pure,Result.andThen_ok,hrun]
    .refine Uy (λb' hb'=>⟨hb',hzb b' hb'⟩) p hbv hi hj (by rw[hbase];exact hat) (λb' ρ hb' hne=>⟨hb',r8 b' ?_⟩) (λ_ _ _ _ _ _ _ _=>rfl) hnew rfl
     rintro rfl
     rw[hlb]at hb'
     simp only[List.cons_append,List.nil_append,jS,List.cons.injEq,true_and]at hb'
     exact hne (by rw[hb'];exact List.prefix_refl _)
    intro i2 j2 r c2 q1 q2 nn hnn
    rcases HR p q1 q2 nn hnn with h|⟨r0,hr0,c0,hc0,h⟩
    .cases h
    exact hA.wf k _ hk nn (mem_flatMap.2 ⟨r0,hr0,mem_flatMap.2 ⟨c0,hc0,h⟩⟩)
   cases h
  cases h
 cases h
end
open Go.RowKit
section
variable {P:Program}{o:Oper}{a:Act}{w w0:World}{X:Ctx}{I:Nm}{lab:Lab}{fz:Nat->Prop}{E:Env}{H:Hp}{c:Prop}{e:Eff}{fp:List Nat}
theorem N9(hE:AtE (hp w) fz lab I H E a){lo:Option Operand}{av:Option SV}{d i:Int}(h1:Ia E lo=some av)(h2:HO E lo)(h3:boI av d=some i):(lo.map a.eval=none/\i=d)∨∃k,lo.map a.eval=some (.int k i):=by
 cases lo with
 |none=>
  simp only[Ia,jS]at h1
  subst h1
  simp only[boI,jS]at h3
  exact .inl ⟨rfl,h3.symm⟩
 |some x=>
 simp only[Ia,map_eq_some_iff]at h1
 obtain⟨v,hv,rfl⟩:=h1
 unfold boI at h3
 split at h3
 .simp_all
 .rename_i k n h
  simp only[jS]at h h3
  subst h;subst h3
  exact .inr ⟨k,by simp[ES (AL hE hv h2)]⟩
 cases h3
theorem sb(P:Program)(w:World)(k:IntKind)(n:Int)(y:Nat)(code:BoundsCode)(h:0<=n/\n<=(y:Int)):(Instr.sliceBound (.int k n) y code).run P w= .ok n.toNat w:=by
 simp[Instr.sliceBound,asIntOf,h]
theorem slb(P:Program)(w:World)(isS:Bool)(len cap:Nat)(lo hi:Option Value)(i j:Int)(hlo:(lo=none/\i=0)∨∃k,lo=some (.int k i))(hhi:(hi=none/\j=len)∨∃k,hi=some (.int k j))(h0:0<=i)(h1:i<=j)(h2:j<=cap):
  (Instr.sliceBounds isS len cap lo hi none).run P w= .ok (i.toNat,j.toNat,cap) w:=by
 have hj:0<=j/\j<=(cap:Int):=⟨by omega,h2⟩
 have hi':0<=i/\i<=((j.toNat:Nat):Int):=⟨h0,by omega⟩
 rcases hlo with⟨rfl,rfl⟩|⟨k,rfl⟩<;>rcases hhi with⟨rfl,rfl⟩|⟨k',rfl⟩
 .simp only[Instr.sliceBounds,Sem.run_bind,Sem.run_pure,Result.andThen_ok];simp
 .simp only[Instr.sliceBounds,Sem.run_bind,Sem.run_pure,Result.andThen_ok,sb P w k' j cap _ hj];simp
 .have hi2:0<=i/\i<=(len:Int):=⟨h0,h1⟩
  simp only[Instr.sliceBounds,Sem.run_bind,Sem.run_pure,Result.andThen_ok,sb P w k i len _ hi2];simp
 .simp only[Instr.sliceBounds,Sem.run_bind,Sem.run_pure,Result.andThen_ok,sb P w k' j cap _ hj,sb P w k i j.toNat _ hi']
theorem A84(P:Program)(w:World)(len cap:Nat)(lo:Option Value)(k k':IntKind)(i j:Int)(hlo:(lo=none/\i=0)∨∃k,lo=some (.int k i))(h0:0<=i)(h1:i<=j)(h2:j<=cap):
  (Instr.sliceBounds true len cap lo (some (.int k j)) (some (.int k' j))).run P w= .ok (i.toNat,j.toNat,j.toNat) w:=by
 have hj:0<=j/\j<=(cap:Int):=⟨by omega,h2⟩
 have hj2:0<=j/\j<=((j.toNat:Nat):Int):=⟨by omega,by omega⟩
 have hi':0<=i/\i<=((j.toNat:Nat):Int):=⟨h0,by omega⟩
 rcases hlo with⟨rfl,rfl⟩|⟨k2,rfl⟩
 .simp only[Instr.sliceBounds,Sem.run_bind,Sem.run_pure,Result.andThen_ok,sb P w k' j cap _ hj,sb P w k j j.toNat _ hj2];simp
 .simp only[Instr.sliceBounds,Sem.run_bind,Sem.run_pure,Result.andThen_ok,sb P w k' j cap _ hj,sb P w k j j.toNat _ hj2,sb P w k2 i j.toNat _ hi']
theorem bP{z:List D}{es:List (List D)}{base:Option Addr}(r:Rd (hp w) fz (.sl z es) (.slice base len cap))(hij:i<=j)(hj:j<=es.length)(hm:j<=m)(hmc:m<=cap):
  len=es.length/\len<=cap/\Rd (hp w) fz (.sl z ((es.drop i).take (j-i))) (.slice (if m=i then base else base.map (·.add (i*z.length))) (j-i) (m-i)):=by
 have hl:((es.drop i).take (j-i)).length=j-i:=by simp;omega
 cases r with
 |nil _ _ _ h0=>
  simp at hj
  obtain rfl:j=0:=by omega
  obtain rfl:i=0:=by omega
  refine⟨rfl,zero_le _,?_⟩
  refine .nil z _ _ ?_
  cases base with
  |none=>simp_all
  |some a=>grind
 |sl _ _ b off _ arr T m' val hz hb hcap hl2 hcc hr=>
  refine⟨rfl,hcap,?_⟩
  by_cases e:m=i
  .obtain rfl:j=i:=by omega
   rw[if_pos e]
   have h0:(es.drop j).take (j-j)=[]:=by simp
   rw[h0,sub_self]
   exact .sl z [] b off _ arr T m' val hz hb (by simp) (by simp) (by simp) (by simp)
  .rw[if_neg e]
   simp only[map_some,H7]
   have key:Rd (hp w) fz (.sl z ((es.drop i).take (j-i))) (.slice (some ⟨b,off+i*z.length,none⟩) ((es.drop i).take (j-i)).length (m-i)):=by
    refine .sl z _ b (off+i*z.length) (m-i) arr T m' (λp q=>val (i+p) q) hz hb (by rw[hl];omega) ?_ ?_ ?_
    .grind
    .grind
    .grind
   rw[hl]at key
   exact key
theorem Z1(T:TypeId)(s:ByteArray)(lo hi:Option Value)(i j:Int)(hT:P.underlying T=some .string)(hlo:(lo=none/\i=0)∨∃k,lo=some (.int k i))(hhi:(hi=none/\j=s.size)∨∃k,hi=some (.int k j))(h0:0<=i)(h1:i<=j)(h2:j<=s.size):
  (Instr.sliceAt T (.string s) lo hi none).run P w= .ok (.string (s.extract i.toNat j.toNat)) w:=by
 simp[Instr.sliceAt,Instr.slice,run_underlying hT,slb P w false s.size s.size lo hi i j hlo hhi h0 h1 h2]
theorem Si(T e':TypeId)(base:Option Addr)(len cap n:Nat)(lo hi:Option Value)(i j:Int)(hT:P.underlying T=some (.slice e'))(hn:Aq P e'=some n)(hlo:(lo=none/\i=0)∨∃k,lo=some (.int k i))(hhi:(hi=none/\j=len)∨∃k,hi=some (.int k j))(h0:0<=i)(h1:i<=j)(h2:j<=cap):
  (Instr.sliceAt T (.slice base len cap) lo hi none).run P w= .ok (.slice (if cap=i.toNat then base else base.map (·.add (i.toNat*n))) (j.toNat-i.toNat) (cap-i.toNat)) w:=by
 simp[Instr.sliceAt,Instr.slice,run_underlying hT,slb P w true len cap lo hi i j hlo hhi h0 h1 h2,run_sizeOf hn]
theorem Z2(T e':TypeId)(base:Option Addr)(len cap n:Nat)(lo:Option Value)(k k':IntKind)(i j:Int)(hT:P.underlying T=some (.slice e'))(hn:Aq P e'=some n)(hlo:(lo=none/\i=0)∨∃k,lo=some (.int k i))(h0:0<=i)(h1:i<=j)(h2:j<=cap):
  (Instr.sliceAt T (.slice base len cap) lo (some (.int k j)) (some (.int k' j))).run P w= .ok (.slice (if j.toNat=i.toNat then base else base.map (·.add (i.toNat*n))) (j.toNat-i.toNat) (j.toNat-i.toNat)) w:=by
 simp[Instr.sliceAt,Instr.slice,run_underlying hT,A84 P w len cap lo k k' i j hlo h0 h1 h2,run_sizeOf hn]
theorem vW(hA:AtW X w0 I lab fz H w)(ht:H t=none){z:List C}(hk:H k=some (.vec u z es)){base:Option Addr}(hI:(I k).v= .slice base es.length cap)(hij:i<=j)(hj:j<=es.length)(hst:BS es)(hzt:zT z=none):
  es.length<=cap/\∃nv lab',nv.v= .slice (if cap=i then base else base.map (·.add (i*z.length))) (j-i) (cap-i)/\AtW X w0 (λn=>if n=t then nv else I n) lab' fz (upd (upd H k .dead) t (.vec 0 z ((es.drop i).take (j-i)))) w/\
   Pres (hp w) (hp w) fz fz I (λn=>if n=t then nv else I n) H (upd (upd H k .dead) t (.vec 0 z ((es.drop i).take (j-i)))):=by
 obtain⟨lab1,hA1,hp1⟩:=Se hA ht hk
 have hkt:k≠t:=by rintro rfl;rw[ht]at hk;cases hk
 let I1:Nm:=λn=>if n=t then I k else I n
 let H1:Hp:=upd (upd H k .dead) t (.vec 0 z es)
 have hH1:H1 t=some (.vec 0 z es):=BM _ _ _
 obtain⟨pr1,pr2⟩:=hA.priv ht
 have hpr:∀k2 ch,k2≠t->H1 k2=some ch->t∉chNames ch:=by
  intro k2 ch h1 h2
  rw[show H1 k2=upd H k .dead k2 from Bm _ _ h1]at h2
  by_cases e:k2=k
  .subst e;rw[BM]at h2;simp only[jS]at h2;subst h2;intro h;cases h
  .rw[Bm _ _ e]at h2;exact pr1 k2 ch h1 h2
 have hnt:∀(i j:Nat) (r:List C) (c:C),es[i]?=some r->r[j]?=some c->t∉c.names/\Dom H1 c.names:=by
  intro i j r c g1 g2
  have hm:∀n∈c.names,n∈chNames (.vec u z es):=λn hn=>mem_flatMap.2 ⟨r,mem_of_getElem? g1,mem_flatMap.2 ⟨c,mem_of_getElem? g2,hn⟩⟩
  refine⟨λh=>pr1 k _ hkt hk (hm t h),λn hn=>?_⟩
  have:=hA.wf k _ hk n (hm n hn)
  exact Bc (Bc (l:=[n]) (by intro q hq;simp at hq;subst hq;exact this) k _) t _ n (by simp)
 obtain⟨m1,m2,m3⟩:=hA1.h t _ hH1
 simp only[if_true]at m1 m2 m3
 have fin:∀nv:NV,nv.mp=false->nv.s=z.length->EY (hp w) fz lab1 (λn=>if n=t then nv else I1 n) [t] z ((es.drop i).take (j-i)) nv.v->
   ∃lab',AtW X w0 (λn=>if n=t then nv else I n) lab' fz (upd (upd H k .dead) t (.vec 0 z ((es.drop i).take (j-i)))) w/\
   Pres (hp w) (hp w) fz fz I (λn=>if n=t then nv else I n) H (upd (upd H k .dead) t (.vec 0 z ((es.drop i).take (j-i)))):=by
  intro nv g1 g2 g3
  obtain⟨r1,r2⟩:=KH (lab':=lab1) (w':=w) hA1 hpr pr2 nv g1 z ((es.drop i).take (j-i)) g2 (λ_ _=>rfl) (λ_ _ _ _ _ b ρ hb=>⟨hb,rfl⟩) hA1.own hA1.fzl hA1.kept g3 (by
   intro p q cs c h1 h2
   rw[getElem?_take]at h1
   split at h1
   .grind
   .cases h1)
  have e1:(λn=>if n=t then nv else if n=t then I k else I n)=λn=>if n=t then nv else I n:=by funext n;split<;>simp_all
  have e2:upd H1 t (.vec 0 z ((es.drop i).take (j-i)))=upd (upd H k .dead) t (.vec 0 z ((es.drop i).take (j-i))):=by funext n;simp only[upd,H1];split<;>rfl
  simp only[e1,show upd (upd (upd H k Ch.dead) t (Ch.vec 0 z es)) t (.vec 0 z ((es.drop i).take (j-i)))=_ from e2]at r1 r2
  exact⟨lab1,r1,(hp1.comp r2).pres ht⟩
 have hIk:(I k).v=slV ((I k).b) (I k).len (I k).cap:=by unfold NV.v;rw[m1];rfl
 rcases m3 with⟨rfl,hx⟩|⟨b,off,cap',arr,T,hx,hlb,hh,hsz,hcap,hc⟩
 .rw[hx]at hI
  simp only[slV,map_none,Value.slice.injEq]at hI
  obtain⟨rfl,_,rfl⟩:=hI
  simp at hj
  obtain rfl:j=0:=hj
  obtain rfl:i=0:=by omega
  refine⟨Nat.le_refl _,⟨none,0,0,z.length,false⟩,?_⟩
  obtain⟨lab',q1,q2⟩:=fin ⟨none,0,0,z.length,false⟩ rfl rfl (.inl ⟨by simp,rfl⟩)
  exact⟨lab',rfl,q1,q2⟩
 .rw[hx]at hI
  simp only[slV,map_some,Value.slice.injEq]at hI
  obtain⟨rfl,_,rfl⟩:=hI
  refine⟨hcap,?_⟩
  have hl:((es.drop i).take (j-i)).length=j-i:=by simp;omega
  by_cases e:cap'=i
  .have hji:j=i:=by omega
   obtain⟨lab',q1,q2⟩:=fin ⟨some (b,off),0,0,z.length,false⟩ rfl rfl (.inr ⟨b,off,0,arr,T,by rw[hl,hji,sub_self];rfl,hlb,hh,⟨by have:=hsz.1;simp;omega,hsz.2⟩,by rw[hl,hji,sub_self];exact Nat.le_refl _,by
    intro p cs h1
    rw[hji,sub_self]at h1
    simp at h1⟩)
   refine⟨_,lab',?_,q1,q2⟩
   rw[if_pos e,hji,sub_self,e,sub_self]
   rfl
  .have hmul:cap'*z.length=i*z.length+(cap'-i)*z.length:=by rw[<- add_mul];congr 1;omega
   obtain⟨lab',q1,q2⟩:=fin ⟨some (b,off+i*z.length),j-i,cap'-i,z.length,false⟩ rfl rfl (.inr ⟨b,off+i*z.length,cap'-i,arr,T,by rw[hl];rfl,hlb,hh,⟨by have:=hsz.1;omega,IY hzt⟩,by rw[hl];omega,by
    intro p cs h1
    rw[getElem?_take]at h1
    split at h1
    .rw[getElem?_drop]at h1
     obtain⟨g1,g2⟩:=hc _ cs h1
     refine⟨g1,λq c h2=>?_⟩
     obtain⟨y,y1,y2⟩:=g2 q c h2
     refine⟨y,by rw[<- y1,add_mul];congr 1;omega,?_⟩
     refine DT (λb hb=>⟨hb,rfl⟩) (IC (hst cs (mem_of_getElem? h1) c (mem_of_getElem? h2))) y2 λn hn=>?_
     have:n≠t:=by rintro rfl;exact(hnt _ q cs c h1 h2).1 hn
     simp[this,I1]
    .cases h1⟩)
   refine⟨_,lab',?_,q1,q2⟩
   rw[if_neg e]
   simp[NV.v,slV,H7]
theorem gZ(T:TypeId)(x:Operand)(lo hi mx:Option Operand)(t:Nat)(ho:o.op= .slice T x lo hi mx)(hE:AtE (hp w) fz lab I H E a)(hA:AtW X w0 I lab fz H w)(ht:H t=none)(h:Jw P E H T x lo hi mx t=some (c,e,fp))(hc:c):DN P o a w X w0 I lab fz H e:=by
 simp only[Jw]at h
 split at h
 .rename_i s av bv h1 h2 h3 h4
  have hmx:mx=none:=by
   cases mx with
   |none=>rfl
   |some q=>simp[Ia]at h4
  subst hmx
  split at h
  .rename_i i j hi' hj'
   split at h
   .rename_i hT
    simp only[rV,jS,jP]at h
    obtain⟨rfl,rfl,rfl⟩:=h
    obtain⟨g1,g2,g3,b1,b2,b3⟩:=hc
    have e1:=Sh (AL hE h1 g1)
    have hb:=N9 hE h2 g2 hi'
    have hb2:=N9 hE h3 g3 hj'
    rw[<- Hf]at hb2 b3
    have hrun:=Z1 (P:=P) (w:=w) T s _ _ i j (Me hT) hb hb2 b1 b2 b3
    refine CF (x:=.string (s.extract i.toNat j.toNat)) hA ?_ ?_
    .simp only[execOp,ho,e1,map_none,Sem.run_bind,hrun,Result.andThen_ok,Sem.run_pure]
    have:s.extract i.toNat j.toNat=bs ((s.toList.drop i.toNat).take (j.toNat-i.toNat)):=by
     conv=>lhs;rw[<- PB s]
     unfold bs
     rw[ByteArray.extract_mk]
    rw[this]
    exact Hg rfl
   cases h
  cases h
 .rename_i z es av bv mv h1 h2 h3 h4
  split at h
  .rename_i i j e' hi' hj' he
   have hsx:rdg E x=true->∃base cap,a.eval x= .slice base es.length cap/\es.length<=cap/\Rd (hp w) fz (.sl z es) (.slice base es.length cap):=by
    intro g1
    have:=(AL hE h1 g1).2
    generalize a.eval x=q at*
    cases this with
    |d _ _ _ r=>
    cases r with
    |nil _ a cap h0=>exact⟨a,cap,rfl,zero_le _,.nil z a cap h0⟩
    |sl _ _ b off cap arr T' m val hz hb hcap hl hcc hr=>exact⟨_,cap,rfl,hcap,.sl z es b off cap arr T' m val hz hb hcap hl hcc hr⟩
   split at h
   .rename_i hm
    have hmx:mx=none:=by
     cases mx with
     |none=>rfl
     |some q=>simp[Ia]at h4
    subst hmx
    simp only[rV,jS,jP]at h
    obtain⟨rfl,rfl,rfl⟩:=h
    obtain⟨g1,g2,g3,b1,b2,b3,hn⟩:=hc
    obtain⟨base,cap,hx,hle,r⟩:=hsx g1
    have hb:=N9 hE h2 g2 hi'
    have hb2:=N9 hE h3 g3 hj'
    have hrun:=Si (P:=P) (w:=w) T e' base es.length cap z.length _ _ i j (EP he) hn hb hb2 b1 b2 (by omega)
    obtain⟨_,_,r'⟩:=bP r (i:=i.toNat) (j:=j.toNat) (m:=cap) (by omega) (by omega) (by omega) (Nat.le_refl _)
    refine CF hA ?_ ⟨rfl,.d _ _ _ r'⟩
    simp only[execOp,ho,hx,map_none,Sem.run_bind,hrun,Result.andThen_ok,Sem.run_pure]
   rename_i mv' hm
   split at h
   .rename_i q hq
    simp only[rV,jS,jP]at h
    obtain⟨rfl,rfl,rfl⟩:=h
    obtain⟨g1,g2,g3,g4,b1,b2,b3,rfl,hn⟩:=hc
    obtain⟨base,cap,hx,hle,r⟩:=hsx g1
    have hb:=N9 hE h2 g2 hi'
    have hb2:=N9 hE h3 g3 hj'
    have hb3:=N9 hE h4 g4 hq
    obtain⟨k',hk'⟩:∃k',mx.map a.eval=some (.int k' q):=by
     rcases hb3 with⟨hn0,_⟩|hk'
     .cases mx with
      |none=>simp[Ia]at h4
      |some q=>simp at hn0
     exact hk'
    have hjk:∃k,hi.map a.eval=some (.int k q):=by
     rcases hb2 with⟨hn0,_⟩|hk'
     .cases hi with
      |none=>simp[Ia]at h3
      |some q=>simp at hn0
     exact hk'
    obtain⟨k,hjk⟩:=hjk
    have hrun:=Z2 (P:=P) (w:=w) T e' base es.length cap z.length _ k k' i q (EP he) hn hb b1 b2 (by omega)
    obtain⟨_,_,r'⟩:=bP r (i:=i.toNat) (j:=q.toNat) (m:=q.toNat) (by omega) (by omega) (Nat.le_refl _) (by omega)
    have hl:((es.drop i.toNat).take (q.toNat-i.toNat)).length=q.toNat-i.toNat:=by simp;omega
    refine CF (x:=.slice (if q.toNat=i.toNat then base else base.map (·.add (i.toNat*z.length))) (q.toNat-i.toNat) (q.toNat-i.toNat)) hA ?_ ⟨rfl,?_⟩
    .simp only[execOp,ho,hx,hjk,hk',Sem.run_bind,hrun,Result.andThen_ok,Sem.run_pure]
    have key:∀(l:List (List D)) (n:Nat) (b:Option Addr),l.length=n->Rd (hp w) fz (.sl z l) (.slice b n n)->Den (hp w) fz lab I [] (.df z l) (.slice b n n):=by
     rintro l n b rfl r
     exact .df _ _ _ _ r
    exact key _ _ _ hl r'
   cases h
  cases h
 .rename_i k av bv h1 h2 h3 h4
  have hmx:mx=none:=by
   cases mx with
   |none=>rfl
   |some q=>simp[Ia]at h4
  subst hmx
  split at h
  .rename_i u z es e' hk he
   split at h
   .rename_i i j hi' hj'
    simp only[jS,jP]at h
    obtain⟨rfl,rfl,rfl⟩:=h
    obtain⟨g1,g2,g3,b1,b2,b3,hn,hzt,hst⟩:=hc
    have hb:=N9 hE h2 g2 hi'
    have hb2:=N9 hE h3 g3 hj'
    have hsx:∃base cap,a.eval x= .slice base es.length cap/\(I k).v= .slice base es.length cap:=by
     have:=(AL hE h1 g1).2
     obtain⟨m1,m2,m3⟩:=hA.h k _ hk
     have hv:(I k).v=a.eval x:=by generalize a.eval x=q at *;cases this;rfl
     rw[<- hv]
     rcases m3 with⟨rfl,hx⟩|⟨b,off,cap',arr,T',hx,_⟩
     .exact⟨none,0,hx,hx⟩
     exact⟨_,cap',hx,hx⟩
    obtain⟨base,cap,hx,hv⟩:=hsx
    obtain⟨hle,nv,lab',q1,q2,q3⟩:=vW hA ht hk (i:=i.toNat) (j:=j.toNat) hv (by omega) (by omega) hst hzt
    have hrun:=Si (P:=P) (w:=w) T e' base es.length cap z.length _ _ i j (EP he) hn hb hb2 b1 b2 (by omega)
    have hkt:k≠t:=by rintro rfl;rw[ht]at hk;cases hk
    have hH:updH H [(t,.vec 0 z ((es.drop i.toNat).take (j.toNat-i.toNat))),(k,.dead)]=upd (upd H k .dead) t (.vec 0 z ((es.drop i.toNat).take (j.toNat-i.toNat))):=by
     funext n
     simp only[updH,upd]
     by_cases e1:n=k
     .simp_all
     simp[e1]
    refine .inl ⟨nv.v,w,?_,λn=>if n=t then nv else I n,lab',fz,?_,?_,?_⟩
    .simp only[execOp,ho,hx,map_none,Sem.run_bind,hrun,Result.andThen_ok,Sem.run_pure,q1]
    .simp_all
    .intro s hs
     simp only[jS]at hs
     subst hs
     have:nv.v=((λn=>if n=t then nv else I n) t).v:=by simp
     rw[this]
     exact⟨rfl,.s _ _⟩
    simp_all
   cases h
  cases h
 cases h
end
open Go.RowKit
section
variable {P:Program}{o:Oper}{a:Act}{w w0:World}{X:Ctx}{I:Nm}{lab:Lab}{fz:Nat->Prop}{E:Env}{H:Hp}{c:Prop}{e:Eff}{fp:List Nat}
theorem A0c(hA:AtW X w0 I lab fz H w)(ht:H t=none)(z:List C):
  AtW X w0 (λn=>if n=t then ⟨none,0,0,z.length,false⟩ else I n) lab fz (upd H t (.vec 0 z [])) w/\PresB t (hp w) (hp w) fz fz I (λn=>if n=t then ⟨none,0,0,z.length,false⟩ else I n) H (upd H t (.vec 0 z [])):=by
 obtain⟨p1,p2⟩:=hA.priv ht
 exact KH (lab':=lab) (w':=w) hA p1 p2 ⟨none,0,0,z.length,false⟩ rfl z [] rfl (λ_ _=>rfl) (λ_ _ _ _ _ b ρ hb=>⟨hb,rfl⟩) hA.own hA.fzl hA.kept (.inl ⟨rfl,rfl⟩) (by simp)
theorem eL(hA:AtW X w0 I lab fz H w){b:C}(hb:SC (hp w) fz lab I H b y){z:List C}{f:List Nat}(hr:Lv H z b=some (rows,f)){U:TypeId}(hU:OV P U (some (.one b))=some ())(hs:0<s)
  (hq:∀q,Ke H b=some q->q=s) (hst:BS rows) :
  ∃news,Src P s U y rows.length news w/\∀(i:Nat) (r:List C),rows[i]?=some r->r.length=s/\∀(j:Nat) (c:C),r[j]?=some c->Dom H c.names/\∃v,news[i*s+j]?=some v/\Den (hp w) fz lab I [] c v:=by
 by_cases hst2:∃st,b= .v (.string st)
 .obtain⟨st,rfl⟩:=hst2
  obtain rfl:=hq 1 rfl
  have hd:=hb.2
  cases hd with
  |v=>
   have hk:P.underlying U=some .string:=by
    simp only[OV]at hU
    split at hU
    .rename_i h;exact Me h
    .cases hU
   simp only[Lv,jS,jP]at hr
   obtain⟨rfl,_⟩:=hr
   have h0:=Src.ofString (P:=P) w hk st
   refine⟨Go.byteCells st,?_,?_⟩
   .rw[length_map,<- Hf];exact h0
   .intro i r hi
    simp only[getElem?_map,map_eq_some_iff]at hi
    obtain⟨b,hb,rfl⟩:=hi
    refine⟨rfl,λj c hj=>?_⟩
    cases j with
    |zero=>
     simp only[getElem?_cons_zero,jS]at hj
     subst hj
     refine⟨(by intro n hn;cases hn),.int .u8 b.toNat,?_,.v _ _ rfl⟩
     rw[ByteArray.toList_eq]at hb
     simp[Go.byteCells,hb]
    |succ j=>simp at hj
 .have h1:Lv H z b=Jf H z b:=by
   exact fQ
  have h2:Ke H b=KC H b:=by
   exact fQ
  have h3:OV P U (some (.one b))=(DU P U).map λ_=>():=by
   exact fQ
  rw[h1]at hr
  rw[h2]at hq
  rw[h3]at hU
  simp only[map_eq_some_iff]at hU
  obtain⟨e,he,_⟩:=hU
  exact WE hA hb hr (EP he) hs hq hst
theorem Sj(hA:AtW X w0 I lab fz H w)(ht:H t=none){I1:Nm}{lab1:Lab}{H1:Hp}(hA1:AtW X w0 I1 lab1 fz H1 w)(hp1:PresB t (hp w) (hp w) fz fz I I1 H H1)(hsub:∀k ch,H1 k=some ch->Dom H (chNames ch))
  {u:Nat} {z:List C} {es:List (List C)} (hH1:H1 t=some (.vec u z es))
  {T U ty e':TypeId} {i:TypeInfo} {zv:Value} (hT:P.underlying T=some (.slice e')) (hi:P.info? e'=some i) (hzv:i.zero=some zv) (hzl:zv.cells.size=i.size) (hs:z.length=i.size) (hzt:zT z=none∨zT z=some e') (hs0:0<i.size)
  {b:C} {y:Value} (hb:SC (hp w) fz lab I H b y) {z2:List C} {rows:List (List C)} {f:List Nat} (hr:Lv H z2 b=some (rows,f)) (hU:OV P U (some (.one b))=some ()) (hq:∀q,Ke H b=some q->q=i.size) (hst:BS rows)
  (hbd:(es.length+rows.length)*i.bytes<=140737488355328) (h63:es.length+rows.length<=9223372036854775807) :
  ∃x w',(Builtin.append_ #[T,U] ty #[(I1 t).v,y]).run P w= .ok x w'/\∃I' lab',AtW X w0 I' lab' fz (upd H1 t (.vec 0 z (es++rows))) w'/\Ap (hp w') fz lab' I' (upd H1 t (.vec 0 z (es++rows))) (.one (.s t)) x/\Pres (hp w) (hp w') fz fz I I' H (upd H1 t (.vec 0 z (es++rows))):=by
 obtain⟨news,hsrc,hrows⟩:=eL (P:=P) hA hb hr hU hs0 hq hst
 have hdt:∀l,Dom H l->t∉l:=by intro l hl h;have:=hl t h;rw[ht]at this;cases this
 have pF:=(hA.priv ht).2
 have hrows':∀(i2:Nat) (r:List C),rows[i2]?=some r->r.length=i.size/\∀(j:Nat) (c:C),r[j]?=some c->c.stor=true/\Dom H1 c.names/\t∉c.names/\∃v,news[i2*i.size+j]?=some v/\Den (hp w) fz lab1 I1 [] c v:=by
  intro i2 r h1
  obtain⟨g1,g2⟩:=hrows i2 r h1
  refine⟨g1,λj c h2=>?_⟩
  obtain⟨g3,v,g4,g5⟩:=g2 j c h2
  have hcs:=hst r (mem_of_getElem? h1) c (mem_of_getElem? h2)
  have hnt:=hdt _ g3
  refine⟨hcs,λn hn=>hp1.d n (by rintro rfl;exact hnt hn) (g3 n hn),hnt,v,g4,?_⟩
  exact DT hp1.z (IC hcs) g5 λn hn=>hp1.n n (by rintro rfl;exact hnt hn) (g3 n hn)
 obtain⟨nv,lab',w',m1,hrun,r1,r2⟩:=vS (P:=P) (ty:=ty) hA1 hH1 (λk ch _ hk=>hdt _ (hsub k ch hk)) (hdt _ (hsub t _ hH1)) pF hT hi hzv hzl hs hs0 hsrc hzt hbd h63 hrows'
 refine⟨nv.v,w',hrun,_,lab',r1,?_,(hp1.comp r2).pres ht⟩
 have:nv.v=((λn=>if n=t then nv else I1 n) t).v:=by simp
 rw[this]
 exact⟨rfl,.s _ _⟩
theorem Yq(hA:AtW X w0 I lab fz H w){b:C}(hb:SC (hp w) fz lab I H b y){z:List C}{f:List Nat}(hr:Jf H z b=some (rows,f)):∃ad l c,y= .slice ad l c:=by
 unfold Jf at hr
 split at hr
 .have:=hb.2
  cases this with|d _ _ _ r=>cases r<;>exact⟨_,_,_,rfl⟩
 .have:=hb.2
  cases this with|df _ _ _ a r=>exact⟨_,_,_,rfl⟩
 .have:=hb.2
  cases this;exact⟨_,_,_,rfl⟩
 .rename_i k
  split at hr
  .rename_i u z' es hk
   have:=hb.2
   cases this
   obtain⟨m1,_,_⟩:=hA.h k _ hk
   exact⟨_,_,_,by unfold NV.v;rw[m1];rfl⟩
  cases hr
 cases hr
theorem bQ:∀{rows:List (List C)} {ns:List Int},Ty rows=some ns->rows=ns.map λn=>[.v (.int .u8 n)]
 |[],ns,h=>by simp only[Ty,jS]at h;subst h;rfl
 |r::rs,ns,h=>by
  unfold Ty at h
  split at h
  .simp_all
  .rename_i n r' hh
   simp only[List.cons.injEq]at hh
   obtain⟨rfl,rfl⟩:=hh
   simp only[map_eq_some_iff]at h
   obtain⟨ns',h,rfl⟩:=h
   rw[bQ h];rfl
  cases h
theorem Yr:∀(ns:List Int) (l:List UInt8),ns.foldl (λr n=>r.push (UInt8.ofNat n.toNat)) (bs l)=bs (l++ns.map byN)
 |[],l=>by simp
 |n::ns,l=>by
  have:(bs l).push (UInt8.ofNat n.toNat)=bs (l++[byN n]):=by
   apply ByteArray.ext;simp[bs,byN,ByteArray.push]
  rw[List.foldl_cons,this,Yr ns]
  simp
theorem ga(s d:TypeId)(x:Operand)(ho:o.op= .convert s d x)(hE:AtE (hp w) fz lab I H E a)(hA:AtW X w0 I lab fz H w)(h:Jx P E H s d x=some (c,e,fp))(hc:c):DN P o a w X w0 I lab fz H e:=by
 unfold Jx at h
 split at h
 .rename_i cc e' h1 he hd
  split at h
  .rename_i rows f hu hr
   simp only[bind_eq_some_iff,rV,jS,jP]at h
   obtain⟨ns,hns,rfl,rfl,rfl⟩:=h
   obtain⟨g1,g2⟩:=hc
   have hsc:SC (hp w) fz lab I H cc (a.eval x):=AL hE h1 g1
   have hrows:=bQ hns
   have hst:BS rows:=by
    intro r hr c hc
    rw[hrows]at hr
    obtain⟨n,_,rfl⟩:=mem_map.1 hr
    simp only[List.mem_singleton]at hc
    subst hc;rfl
   obtain⟨news,hsrc,hrw⟩:=WE (P:=P) hA hsc hr (EP he) Nat.one_pos g2 hst
   have hnews:news=ns.map (.int .u8):=by
    apply ext_getElem?
    intro i
    have hl:=hsrc.newsLen
    rw[mul_one,hrows,length_map]at hl
    cases hi:ns[i]? with
    |none=>
     have:=List.getElem?_eq_none_iff.1 hi
     rw[List.getElem?_eq_none (by omega)];simp[hi]
    |some n=>
    have hri:rows[i]?=some [.v (.int .u8 n)]:=by rw[hrows];simp[hi]
    obtain⟨_,v,v1,v2⟩:=(hrw i _ hri).2 0 _ rfl
    cases v2
    simp only[mul_one,Nat.add_zero]at v1
    rw[v1];simp[hi]
   obtain⟨ad,l,cp,hy⟩:=Yq hA hsc hr
   rw[hy]at hsrc
   have hln:l=rows.length:=by
    have:=hsrc.len w
    simpa [Builtin.lenOf] using this
   have hui:P.underlying e'=some (.int .u8):=by
    unfold PX at hu
    split at hu
    .grind
    cases hu
   have hcv:=run_convert_bytes_string (P:=P) w s d e' ad l cp (EP he) hui (Me hd)
   refine CF (x:=.string (bs (ns.map byN))) hA ?_ (Hg rfl)
   have hfin:(Conv.bytesToString (.slice ad l cp)).run P w= .ok (.string (bs (ns.map byN))) w:=by
    cases ad with
    |none=>
     have:=hsrc.cells
     have h0:news=[]:=by
      have h2:(Builtin.firstCells 1 rows.length (.slice none l cp)).run P w= .ok #[] w:=by simp[Builtin.firstCells]
      rw[h2]at this
      simpa using this
     rw[hnews]at h0
     have:ns=[]:=by simpa using h0
     subst this
     simp[Conv.bytesToString,bs];rfl
    |some ad=>
    have h2:=hsrc.cells
    simp only[Builtin.firstCells,mul_one]at h2
    rw[<- hln,hnews]at h2
    rw[run_bytesToString w ad l cp ns h2]
    have:=Yr ns []
    rw[show (bs []:ByteArray)=ByteArray.empty from rfl]at this
    rw[this];simp
   simp only[execOp,ho,hy,Sem.run_bind,hcv,hfin,Result.andThen_ok,Sem.run_pure]
  cases h
 cases h
theorem cf(x y:Operand)(T U:TypeId)(t:Nat)(args:Array Operand)(ts:Array TypeId)(ho:o.op= .call { callee:=.builtin .append,args,argTypes:=ts })(hargs:args.toList=[x,y])(hts:ts.toList=[T,U])(hE:AtE (hp w) fz lab I H E a)(hA:AtW X w0 I lab fz H w)(ht:H t=none)
  (h:Ib P E H x y T U t=some (c,e,fp)) (hc:c):DN P o a w X w0 I lab fz H e:=by
 have hrun:∀q w',(Builtin.append_ #[T,U] o.type #[a.eval x,a.eval y]).run P w= .ok q w'->(execOp a.eval o).run P w= .ok (.value q) w':=by
  exact aR
 simp only[Ib]at h
 split at h
 .rename_i av bv e' e2 h1 h2 he he2
  have hU:OV P U (some (.one bv))=some ():=by rw[<- h2];exact he2
  split at h
  .rename_i s zv yb hs hz hy
   split at h
   .rename_i rows f2 hr
    obtain⟨i,hi,rfl,hz',rfl⟩:=rS hs hz hy
    have hzs:(ofV zv).cells.length=i.size->0<i.size->zv.cells.size=i.size:=by
     intro hok hpos
     cases zv with
     |tuple vs=>rw[<- hok]at hpos;simp[ofV,SV.cells]at hpos
     |agg cs=>rw[<- hok];simp[ofV,SV.cells,Value.cells]
     |_=>rw[<- hok];rfl
    split at h
    .simp only[jS,jP]at h
     obtain⟨rfl,rfl,rfl⟩:=h
     obtain⟨g1,g2,hs0,hzl,hq,hst,hbd,h63⟩:=hc
     have e1:=Gq (AL hE h1 g1) rfl
     obtain⟨hA1,hp1⟩:=A0c hA ht (ofV zv).cells
     obtain⟨q,w',hrn,I',lab',r1,r2,r3⟩:=Sj (P:=P) (T:=T) (U:=U) (ty:=o.type) hA ht hA1 hp1 (λk ch hk=>by
       by_cases e0:k=t
       .subst e0;rw[BM]at hk;simp only[jS]at hk;subst hk;intro n hn;simp[chNames]at hn
       .rw[Bm _ _ e0]at hk;exact hA.wf k ch hk) (BM _ _ _) (EP he) hi hz' (hzs hzl hs0) hzl (.inl (Sa zv)) hs0 (AL hE h2 g2) hr hU hq hst (by simpa using hbd) (by simpa using h63)
     have e3:upd (upd H t (.vec 0 (ofV zv).cells [])) t (.vec 0 (ofV zv).cells ([]++rows))=updH H [(t,.vec 0 (ofV zv).cells rows)]:=by
      funext n;simp only[upd,updH,List.nil_append];split<;>rfl
     rw[e3]at r1 r2 r3
     refine .inl ⟨q,w',hrun q w' ?_,I',lab',fz,r1,λsv hsv=>by simp only[jS]at hsv;subst hsv;exact r2,r3⟩
     rw[e1]
     simpa [NV.v,slV] using hrn
    .rename_i z' es'
     simp only[jS,jP]at h
     obtain⟨rfl,rfl,rfl⟩:=h
     obtain⟨g1,g2,hs0,hz1,hzl,hr0,hq,hst,hbd,h63⟩:=hc
     have hsx:SC (hp w) fz lab I H (.df z' es') (a.eval x):=AL hE h1 g1
     obtain⟨olds,hso,hro⟩:=WE (P:=P) hA (b:=.df z' es') hsx (z:=(ofV zv).cells) rfl (EP he) hs0 (λq hq=>by simp only[KC,jS]at hq;omega) (λr hr c hc=>by
      obtain⟨r0,_,rfl⟩:=mem_map.1 hr
      obtain⟨d,_,rfl⟩:=mem_map.1 hc
      exact Nr d)
     obtain⟨news,hsn,hrn⟩:=eL (P:=P) hA (AL hE h2 g2) hr hU hs0 hq hst
     obtain⟨ad,hxe⟩:∃ad,a.eval x= .slice ad es'.length es'.length:=by
      have:=hsx.2
      generalize a.eval x=q at*
      cases this;exact⟨_,rfl⟩
     rw[length_map]at hso
     have hg:es'.length<es'.length+rows.length:=by omega
     have holds:=hso.cellsD
     rw[hxe]at holds
     have hrn2:=run_append_grow_src (P:=P) w T U o.type e' i zv (EP he) hi hz' ad es'.length es'.length olds holds (a.eval y) rows.length news hsn hg (by omega) (growslice_fits hg hbd)
     have hge:=grownCap_ge w (es'.length+rows.length) es'.length e'
     generalize grownCap w (es'.length+rows.length) es'.length e'=nc at*
     have ho1:=hso.newsLen
     have hn1:=hsn.newsLen
     refine .inl ⟨_,_,hrun _ _ (by rw[hxe];exact hrn2),Md hA w.drew rfl rfl rfl rfl t ht (ofV zv).cells (es'.map (λr=>r.map oD)++rows) _ e' nc (by simpa using hge) ?_ (IY (Sa zv)) ?_ _ _ (.inr ⟨rfl,by simp[slV]⟩)⟩
     .simp only[Array.size_append,List.size_toArray,List.length_append,size_zeroCells,hzs hzl hs0,hzl,ho1,hn1]
      have:(nc-(es'.length+rows.length))*i.size+(es'.length+rows.length)*i.size=nc*i.size:=by
       rw[<- add_mul];congr 1;omega
      rw[add_mul]at this
      omega
     .have hget:∀n,n<olds.length+news.length->((olds++news).toArray++Builtin.zeroCells zv.cells (nc-(es'.length+rows.length)))[n]?=(olds++news)[n]?:=by
       intro n hn
       rw[Array.getElem?_append_left (by simpa using hn)]
       simp
      intro i2 r hr
      rw[getElem?_append]at hr
      split at hr
      .rename_i hlt2
       rw[length_map]at hlt2
       obtain⟨q1,q2⟩:=hro i2 r hr
       refine⟨q1.trans hzl.symm,λj c hj=>?_⟩
       obtain⟨c2,v,v1,v2⟩:=q2 j c hj
       have hjl:j<i.size:=by have:=(List.getElem?_eq_some_iff.1 hj).1;omega
       have hpos:i2*i.size+j<olds.length:=by
        have:(i2+1)*i.size<=es'.length*i.size:=mul_le_mul_right _ hlt2
        rw[add_mul]at this
        omega
       refine⟨?_,c2,v,?_,v2⟩
       .have hm:=mem_of_getElem? hr
        obtain⟨r0,_,rfl⟩:=mem_map.1 hm
        obtain⟨d,_,rfl⟩:=mem_map.1 (mem_of_getElem? hj)
        exact Nr d
       .rw[hzl,hget _ (by omega),List.getElem?_append_left hpos];exact v1
      .rename_i hge2
       rw[length_map]at hge2 hr
       obtain⟨q1,q2⟩:=hrn _ r hr
       refine⟨q1.trans hzl.symm,λj c hj=>?_⟩
       obtain⟨c2,v,v1,v2⟩:=q2 j c hj
       have hjl:j<i.size:=by have:=(List.getElem?_eq_some_iff.1 hj).1;omega
       obtain⟨d,rfl⟩:∃d,i2=es'.length+d:=⟨i2-es'.length,by omega⟩
       rw[show es'.length+d-es'.length=d by omega]at v1 hr
       have hdl:d<rows.length:=(List.getElem?_eq_some_iff.1 hr).1
       have hd2:(d+1)*i.size<=rows.length*i.size:=mul_le_mul_right _ hdl
       rw[add_mul]at hd2
       refine⟨hst r (mem_of_getElem? hr) c (mem_of_getElem? hj),c2,v,?_,v2⟩
       rw[hzl,add_mul,hget _ (by rw[ho1,hn1];omega),List.getElem?_append_right (by omega),<- v1]
       congr 1
       omega
    .rename_i k
     split at h
     .rename_i u z' es hk
      simp only[jS,jP]at h
      obtain⟨rfl,rfl,rfl⟩:=h
      obtain⟨g1,g2,hs0,hz1,hzl,hq,hst,_,hbd,h63⟩:=hc
      have hkt:k≠t:=by rintro rfl;rw[ht]at hk;cases hk
      obtain⟨lab1,hA1,hp1⟩:=Se hA ht hk
      obtain⟨q,w',hrn,I',lab',r1,r2,r3⟩:=Sj (P:=P) (T:=T) (U:=U) (ty:=o.type) hA ht hA1 hp1 (λk2 ch hk2=>by
       by_cases e0:k2=t
       .subst e0;rw[BM]at hk2;simp only[jS]at hk2;subst hk2;show Dom H (chNames (.vec u z' es));exact hA.wf k _ hk
       .rw[Bm _ _ e0]at hk2
        by_cases e4:k2=k
        .subst e4;rw[BM]at hk2;simp only[jS]at hk2;subst hk2;intro n hn;cases hn
        .rw[Bm _ _ e4]at hk2;exact hA.wf k2 ch hk2) (BM _ _ _) (EP he) hi hz' (hzs hzl hs0) hz1.1 hz1.2 hs0 (AL hE h2 g2) hr hU hq hst hbd h63
      have e3:upd (upd (upd H k .dead) t (.vec 0 z' es)) t (.vec 0 z' (es++rows))=updH H [(t,.vec 0 z' (es++rows)),(k,.dead)]:=by
       exact AAc
      rw[e3]at r1 r2 r3
      refine .inl ⟨q,w',hrun q w' ?_,I',lab',fz,r1,λsv hsv=>by simp only[jS]at hsv;subst hsv;exact r2,r3⟩
      have e1:a.eval x=(I k).v:=by
       have:=(AL hE h1 g1).2
       generalize a.eval x=q at*
       cases this;rfl
      rw[e1]
      simpa using hrn
     .cases h
    .rename_i k u p
     split at h
     .rename_i u' zz es hk
      split at h
      .rename_i z' es' hj
       simp only[jS,jP]at h
       obtain⟨rfl,rfl,rfl⟩:=h
       obtain⟨g1,g2,rfl,hii,hs0,hz1,hzl,hq,hst,_,hbd,h63⟩:=hc
       have hkt:k≠t:=by rintro rfl;rw[ht]at hk;cases hk
       obtain⟨hden,hat⟩:=Nu hA hk hii hj (AL hE h1 g1)
       obtain⟨lab1,nv,m1,e1,hA1,hp1⟩:=eH hA ht hk hii hj hat
       obtain⟨q,w',hrn,I',lab',r1,r2,r3⟩:=Sj (P:=P) (T:=T) (U:=U) (ty:=o.type) hA ht hA1 hp1 (λk2 ch hk2=>by
        by_cases e0:k2=t
        .subst e0;rw[BM]at hk2;simp only[jS]at hk2;subst hk2
         intro n hn
         obtain⟨r,q1,hn⟩:=mem_flatMap.1 hn
         obtain⟨cc,q2,hn⟩:=mem_flatMap.1 hn
         obtain⟨p1,q1⟩:=mem_iff_getElem?.1 q1
         obtain⟨p2,q2⟩:=mem_iff_getElem?.1 q2
         rw[(Ik hden).2 p1 p2 r cc q1 q2]at hn
         cases hn
        .rw[Bm _ _ e0]at hk2
         by_cases e4:k2=k
         .subst e4;rw[BM]at hk2;simp only[jS]at hk2;subst hk2
          intro n hn
          obtain⟨r,q1,hn1⟩:=mem_flatMap.1 hn
          clear hn
          obtain⟨cc,q2,hn⟩:=mem_flatMap.1 hn1
          clear hn1
          obtain⟨i2,q1⟩:=mem_iff_getElem?.1 q1
          obtain⟨j2,q2⟩:=mem_iff_getElem?.1 q2
          rcases HR p q1 q2 n hn with h|⟨r0,hr0,c0,hc0,h⟩
          .cases h
          .exact hA.wf k2 _ hk n (mem_flatMap.2 ⟨r0,hr0,mem_flatMap.2 ⟨c0,hc0,h⟩⟩)
         .rw[Bm _ _ e4]at hk2;exact hA.wf k2 ch hk2) (BM _ _ _) (EP he) hi hz' (hzs hzl hs0) hz1.1 hz1.2 hs0 (AL hE h2 g2) hr hU hq hst hbd h63
       have e3:upd (upd (upd H k (.vec (u'+1) zz (He p zz es .any))) t (.vec 0 z' es')) t (.vec 0 z' (es'++rows))=updH H [(t,.vec 0 z' (es'++rows)),(k,.vec (u'+1) zz (He p zz es .any))]:=by
        exact AAc
       rw[e3]at r1 r2 r3
       refine .inl ⟨q,w',hrun q w' ?_,I',lab',fz,r1,λsv hsv=>by simp only[jS]at hsv;subst hsv;exact r2,r3⟩
       rw[<- e1]
       simpa using hrn
      .cases h
     .cases h
    .cases h
   .cases h
  .cases h
 .cases h
end
open Go.RowKit
theorem eM{P:Program}{X:Ctx}{w0:World}{f:FuncId}:∀{l:List (Spec P X w0)} {s:Spec P X w0},U0 f l=some s->s.f=f
 |[],s,h=>by simp[U0]at h
 |s0::r,s,h=>by
  simp only[U0]at h
  split at h
  .simp_all
  exact eM h
section
variable {P:Program}{o:Oper}{a:Act}{w w0:World}{X:Ctx}{I:Nm}{lab:Lab}{fz:Nat->Prop}{E:Env}{H:Hp}{c:Prop}{e:Eff}{fp:List Nat}
theorem vX(hA:AtW X w0 I lab fz H w)(hs:SC (hp w) fz lab I H cc y){p:Prop}{n:Int}{f:List Nat}(hl:Uv H cc=some (p,n,f))(hp':p):∃b len cap,y= .slice b len cap/\n=len:=by
 unfold Uv at hl
 split at hl
 .simp only[jS,jP]at hl
  obtain⟨_,rfl,_⟩:=hl
  have:=hs.2
  cases this with
  |d _ _ _ r=>cases r<;>exact⟨_,_,_,rfl,by simp⟩
 .simp only[jS,jP]at hl
  obtain⟨_,rfl,_⟩:=hl
  have:=hs.2
  cases this with
  |df _ _ _ a r=>grind
 .simp only[jS,jP]at hl
  obtain⟨_,rfl,_⟩:=hl
  have:=hs.2
  cases this
  exact⟨_,_,_,rfl,rfl⟩
 .rename_i k
  split at hl
  .rename_i u z es hk
   simp only[jS,jP]at hl
   obtain⟨_,rfl,_⟩:=hl
   have:=hs.2
   cases this
   obtain⟨m1,m2,m3⟩:=hA.h k _ hk
   rcases m3 with⟨rfl,hx⟩|⟨b,off,cap',arr,T',hx,_⟩
   .exact⟨_,_,_,hx,rfl⟩
   exact⟨_,_,_,hx,rfl⟩
  cases hl
 .rename_i k u p
  split at hl
  .rename_i u' z es hk
   split at hl
   .rename_i z' es' hj
    simp only[jS,jP]at hl
    obtain⟨rfl,rfl,_⟩:=hl
    obtain⟨rfl,hi⟩:=hp'
    obtain⟨hvec,_⟩:=Ik (Nu hA hk hi hj hs).1
    rcases hvec with⟨rfl,hx⟩|⟨b,off,cap',arr,T',hx,_⟩
    .exact⟨_,_,_,hx,rfl⟩
    exact⟨_,_,_,hx,rfl⟩
   cases hl
  cases hl
 cases hl
theorem bR(b:Builtin)(args:Array Operand)(ts:Array TypeId)(ho:o.op= .call { callee:=.builtin b,args,argTypes:=ts })(hE:AtE (hp w) fz lab I H E a)(hW:WFE E H)(hA:AtW X w0 I lab fz H w)
  (h:HQ P E H b args.toList ts.toList=some (c,e,fp)) (hc:c):DN P o a w X w0 I lab fz H e:=by
 obtain⟨cs,hrun⟩:∃cs,(execOp a.eval o).run P w=(builtin b ts o.type cs (args.map a.eval)).run P w:=⟨_,by
  simp only[execOp,ho,resolve,invoke,Sem.run_bind,Sem.run_pure,Result.andThen_ok];rfl⟩
 have two:∀{u v:SV},GN E args.toList=some [u,v]->FS E args.toList->∃x y,args.map a.eval = #[x,y]/\Ap (hp w) fz lab I H u x/\Ap (hp w) fz lab I H v y:=by
  intro u v hr hg
  obtain⟨q1,q2,_⟩:=Lz hE hW hr hg
  match hargs:args.toList,q1 with
  |[p,q],_=>
   refine⟨a.eval p,a.eval q,?_,?_,?_⟩
   .grind
   .exact q2 0 u _ rfl (by rw[hargs];rfl)
   .exact q2 1 v _ rfl (by rw[hargs];rfl)
 have four:∀{u v u2 v2:SV},GN E args.toList=some [u,v,u2,v2]->FS E args.toList->∃x y x2 y2,args.map a.eval = #[x,y,x2,y2]/\Ap (hp w) fz lab I H u x/\Ap (hp w) fz lab I H v y/\Ap (hp w) fz lab I H u2 x2/\Ap (hp w) fz lab I H v2 y2:=by
  intro u v u2 v2 hr hg
  obtain⟨q1,q2,_⟩:=Lz hE hW hr hg
  match hargs:args.toList,q1 with
  |[p,q,p2,q3],_=>
   refine⟨a.eval p,a.eval q,a.eval p2,a.eval q3,?_,?_,?_,?_,?_⟩
   .grind
   .exact q2 0 u _ rfl (by rw[hargs];rfl)
   .exact q2 1 v _ rfl (by rw[hargs];rfl)
   .exact q2 2 u2 _ rfl (by rw[hargs];rfl)
   .exact q2 3 v2 _ rfl (by rw[hargs];rfl)
 have one:∀{u:SV},GN E args.toList=some [u]->FS E args.toList->∃x,args.map a.eval = #[x]/\Ap (hp w) fz lab I H u x:=by
  intro u hr hg
  obtain⟨q1,q2,_⟩:=Lz hE hW hr hg
  match hargs:args.toList,q1 with
  |[p],_=>
   refine⟨a.eval p,?_,?_⟩
   .grind
   .exact q2 0 u _ rfl (by rw[hargs];rfl)
 simp only[HQ]at h
 split at h
 .rename_i k x k' y hr
  simp only[rV,jS,jP]at h
  obtain⟨rfl,rfl,rfl⟩:=h
  obtain⟨p,q,h1,h2,h3⟩:=two hr hc
  have e1:=ES h2;have e2:=ES h3
  subst e1;subst e2
  exact CF hA (by rw[hrun];simp[builtin,Builtin.min_,h1,Builtin.min2];rfl) (Hg rfl)
 .rename_i k x k' y hr
  simp only[rV,jS,jP]at h
  obtain⟨rfl,rfl,rfl⟩:=h
  obtain⟨p,q,h1,h2,h3⟩:=two hr hc
  have e1:=ES h2;have e2:=ES h3
  subst e1;subst e2
  exact CF hA (by rw[hrun];simp[builtin,Builtin.max_,h1,Builtin.max2];rfl) (Hg rfl)
 .rename_i k x k2 y k3 z k4 u hr
  simp only[rV,jS,jP]at h
  obtain⟨rfl,rfl,rfl⟩:=h
  obtain⟨p,q,p2,q2,h1,h2,h3,h4,h5⟩:=four hr hc
  have e1:=ES h2;have e2:=ES h3;have e3:=ES h4;have e4:=ES h5
  subst e1;subst e2;subst e3;subst e4
  exact CF hA (by rw[hrun];simp[builtin,Builtin.min_,h1,Builtin.min2];rfl) (Hg rfl)
 .rename_i k x k2 y k3 z k4 u hr
  simp only[rV,jS,jP]at h
  obtain⟨rfl,rfl,rfl⟩:=h
  obtain⟨p,q,p2,q2,h1,h2,h3,h4,h5⟩:=four hr hc
  have e1:=ES h2;have e2:=ES h3;have e3:=ES h4;have e4:=ES h5
  subst e1;subst e2;subst e3;subst e4
  exact CF hA (by rw[hrun];simp[builtin,Builtin.max_,h1,Builtin.max2];rfl) (Hg rfl)
 .rename_i s hr
  split at h
  .rename_i T hts
   split at h
   .rename_i hT
    simp only[rV,jS,jP]at h
    obtain⟨rfl,rfl,rfl⟩:=h
    obtain⟨p,h1,h2⟩:=one hr hc
    have e1:=Sh h2
    subst e1
    have h3:ts = #[T]:=by apply Array.ext';rw[hts]
    refine CF hA ?_ (Hg rfl)
    rw[hrun,h1,h3]
    have:=run_len_string (P:=P) w T o.type s (Me hT)
    simp only[builtin,Sem.run_bind,this,Result.andThen_ok,Sem.run_pure,goInt,Hf]
   .cases h
  .cases h
 .rename_i cc hr
  split at h
  .rename_i T hts
   split at h
   .rename_i el p n f hT hl
    simp only[rV,jS,jP]at h
    obtain⟨rfl,rfl,rfl⟩:=h
    obtain⟨hg,hp'⟩:=hc
    obtain⟨q,h1,h2⟩:=one hr hg
    obtain⟨b',len,cap,rfl,rfl⟩:=vX hA h2 hl hp'
    have h3:ts = #[T]:=by apply Array.ext';rw[hts]
    have hu:=EP hT
    exact CF hA (by rw[hrun];simp[builtin,Builtin.len_,h1,h3,run_underlying hu,goInt]) (Hg rfl)
   .cases h
  .cases h
 .cases h
theorem gd{ad:Addr}{v:Value}{w1:World}(h:(load ad).run P w= .ok v w1):w1=w:=by
 rw[run_load]at h
 split at h
 .simp_all
 grind
theorem Oa(b:Addr):∀(n i:Nat) (acc arr:Array Value),(loadCellsFrom b i n acc).run P w= .ok arr w->∀n'≤n,(loadCellsFrom b i n' acc).run P w= .ok (arr.toList.take (acc.size+n')).toArray w/\acc.toList=arr.toList.take acc.size
 |0,i,acc,arr,h,n',hn=>by
  obtain rfl:n'=0:=by omega
  simp only[loadCellsFrom,Sem.run_pure,Result.ok.injEq,and_true]at h
  subst h
  have e:acc.toList.take acc.size=acc.toList:=List.take_of_length_le (by simp)
  exact⟨by simp[loadCellsFrom,e],e.symm⟩
 |n+1,i,acc,arr,h,n',hn=>by
  simp only[loadCellsFrom,Sem.run_bind]at h
  cases hl:(load (b.add i)).run P w with
  |ok v w1=>
   rw[hl]at h
   simp only[Result.andThen_ok]at h
   have hw:w1=w:=gd hl
   rw[hw]at h hl
   clear hw w1
   have ih:=Oa b n (i+1) (acc.push v) arr h
   have hacc:acc.toList=arr.toList.take acc.size:=by
    have:=(ih 0 (zero_le _)).2
    rw[size_push,Array.toList_push]at this
    have h2:=congrArg (List.take acc.size) this
    rw[List.take_take,Nat.min_eq_left (Nat.le_succ _),List.take_append_of_le_length (by simp),List.take_of_length_le (by simp)]at h2
    exact h2
   cases n' with
   |zero=>exact⟨by simp only[loadCellsFrom,Sem.run_pure,Nat.add_zero];rw[<- hacc],hacc⟩
   |succ m=>
   refine⟨?_,hacc⟩
   have:=(ih m (by omega)).1
   simp only[loadCellsFrom,Sem.run_bind,hl,Result.andThen_ok]
   rw[this,size_push]
   congr 3
   omega
  |_=>simp_all
theorem Xu{n:Nat}{ad:Option Addr}{l c:Nat}{news:List Value}(h:(Builtin.firstCells s m (.slice ad l c)).run P w= .ok news.toArray w)(hn:n<=m):
  (Builtin.firstCells s n (.slice ad l c)).run P w= .ok (news.take (n*s)).toArray w:=by
 cases ad with
 |none=>
  simp only[Builtin.firstCells,Sem.run_pure,Result.ok.injEq,and_true]at h ⊢
  have:news=[]:=by simpa using h.symm
  subst this;simp
 |some b=>
  simp only[Builtin.firstCells,loadCells]at h ⊢
  have:=(Oa b (m*s) 0 #[] _ h (n*s) (mul_le_mul_right _ hn)).1
  simpa using this
theorem l8{u:List (Nat×Ch)}{x':Value}(h:I6 X w0 w I lab fz H none u x w')(hv:∀I' lab' fz',Ap (hp w') fz' lab' I' (updH H u) v x'):I6 X w0 w I lab fz H (some v) u x' w':=by
 obtain⟨I',lab',fz',h1,_,h3⟩:=h
 exact⟨I',lab',fz',h1,λs hs=>by simp only[jS]at hs;subst hs;exact hv _ _ _,h3⟩
theorem l9(x y:Operand)(T U:TypeId)(args:Array Operand)(ts:Array TypeId)(ho:o.op= .call { callee:=.builtin .copy,args,argTypes:=ts })(hargs:args.toList=[x,y])(hts:ts.toList=[T,U])(hE:AtE (hp w) fz lab I H E a)(hA:AtW X w0 I lab fz H w)
  (h:LU P E H x y T U=some (c,e,fp)) (hc:c):DN P o a w X w0 I lab fz H e:=by
 have hrun:∀q w',(Builtin.copy_ #[T,U] o.type #[a.eval x,a.eval y]).run P w= .ok q w'->(execOp a.eval o).run P w= .ok (.value q) w':=by
  exact aR
 simp only[LU]at h
 split at h
 .rename_i k bv e' e2 h1 h2 he he2
  split at h
  .rename_i u z es s hk hs
   split at h
   .rename_i rows f hr
    simp only[jS,jP]at h
    obtain⟨rfl,rfl,rfl⟩:=h
    obtain⟨g1,g2,hs0,hzl,hes,hq,hst⟩:=hc
    have hsy:=AL hE h2 g2
    obtain⟨news,hsrc,hrw⟩:=WE (P:=P) hA hsy hr (EP he2) hs0 hq hst
    obtain⟨ad,ln,cp,hy⟩:=Yq hA hsy hr
    have hx:a.eval x=(I k).v:=by
     have:=(AL hE h1 g1).2
     generalize a.eval x=q at*
     cases this;rfl
    obtain⟨m1,m2,m3⟩:=hA.h k _ hk
    rcases m3 with⟨rfl,_⟩|⟨bl,off,cap,arr,T',hv,hlb,hh,hsz,hcap,hcc⟩
    .simp_all
    obtain⟨n,hn⟩:∃n,min rows.length es.length=n:=⟨_,rfl⟩
    have hnl:=hsrc.newsLen
    have hfc:=Xu (P:=P) (n:=n) (by rw[<- hy];exact hsrc.cells) (by omega)
    rw[<- hy]at hfc
    have hhw:w.heap[bl]?=some (.cells arr T' (0,0)):=hh
    have htl:(news.take (n*s)).length=n*s:=by
     rw[length_take,hnl]
     exact Nat.min_eq_left (mul_le_mul_right _ (by omega))
    have hcs:es.length*s<=cap*s:=mul_le_mul_right _ hcap
    have hns:n*s<=es.length*s:=mul_le_mul_right _ (by omega)
    rw[hzl]at hsz
    have hfit:off+(news.take (n*s)).length<=arr.size:=by rw[htl];omega
    obtain⟨arr',q1,q2,q3,q4,q5,q6,q7,q8⟩:=Il bl T' (0,0) (news.take (n*s)) off w arr hhw hfit
    have hst2:=run_storeCells_cells (P:=P) bl off (news.take (n*s)) 0 w
     (λj hj=>by simp only[World.cell?,hhw,isSome_none,jB,if_false];rw[Array.getElem?_eq_getElem (by omega)];rfl)
     (λj hj=>by simp[World.frozen?,hhw]) (λv hv=>hsrc.one v (List.mem_of_mem_take hv))
    simp only[Nat.add_zero]at hst2
    have hrn:(Builtin.copy_ #[T,U] o.type #[a.eval x,a.eval y]).run P w= .ok (goInt n) (w.setCells bl off (news.take (n*s))):=by
     rw[hx,hv]
     have hlen:=hsrc.len w
     obtain⟨ti,hti⟩:∃ti,P.info? e'=some ti/\ti.size=s:=by
      unfold Aq at hs
      simpa using hs
     have hmn:Nat.min rows.length es.length=n:=hn
     simp only[Builtin.copy_,slV]
     simp[run_underlying (EP he),sizeOf,typeInfo,hti.1,hti.2,hlen,hmn,hfc,hst2]
    refine .inl ⟨_,_,hrun _ _ hrn,l8 (Uz hA hk hlb q4 q5 q6 q7 q8 ?_ ?_ undef) λ_ _ _=>?_⟩
    .refine .inr ⟨bl,off,cap,arr',T',?_,hlb,q1,⟨by rw[q2,hzl];exact hsz.1,hsz.2⟩,by simp;omega,λi2 r hr2=>?_⟩
     .grind
     rw[getElem?_append]at hr2
     split at hr2
     .rename_i hlt
      rw[length_take]at hlt
      rw[getElem?_take]at hr2
      split at hr2
      .obtain⟨p1,p2⟩:=hrw i2 r hr2
       refine⟨p1.trans hzl.symm,λj c hj=>?_⟩
       obtain⟨c2,v,v1,v2⟩:=p2 j c hj
       have hjl:j<s:=by have:=(List.getElem?_eq_some_iff.1 hj).1;omega
       refine⟨v,?_,DT (λb hb=>⟨hb,q8 b (by rintro rfl;have:=(hA.fzl b hb).2;rw[hlb]at this;cases this)⟩) (IC (hst r (mem_of_getElem? hr2) c (mem_of_getElem? hj))) v2 (λ_ _=>rfl)⟩
       have hd2:(i2+1)*s<=n*s:=mul_le_mul_right _ (by omega)
       rw[add_mul]at hd2
       rw[q3,hzl,if_pos (by rw[htl];omega),<- v1,show off+i2*s+j-off=i2*s+j by omega,getElem?_take,if_pos (by omega)]
      .cases hr2
     .rename_i hge
      rw[length_take]at hge hr2
      rw[getElem?_drop]at hr2
      have hi3:rows.length+(i2-min es.length rows.length)=i2:=by grind
      rw[hi3]at hr2
      obtain⟨p1,p2⟩:=hcc i2 r hr2
      refine⟨p1,λj c hj=>?_⟩
      obtain⟨v,v1,v2⟩:=p2 j c hj
      have hjl:j<s:=by have:=(List.getElem?_eq_some_iff.1 hj).1;omega
      refine⟨v,?_,Kb (λb hb=>⟨hb,q8 b (by rintro rfl;have:=(hA.fzl b hb).2;rw[hlb]at this;cases this)⟩) v2 _ (λb ρ hb=>⟨hb,q8 b ?_⟩) (λ_ _=>rfl)⟩
      .rw[q3,if_neg ?_];· exact v1
       intro hh2
       rw[htl]at hh2
       have hd2:n*s<=i2*s:=mul_le_mul_right _ (by omega)
       rw[hzl]at hh2
       omega
      .grind
    .intro i2 j r c hr2 hj
     rw[getElem?_append]at hr2
     split at hr2
     .grind
     .rw[getElem?_drop]at hr2
      exact λq hq=>hA.wf k _ hk q (mem_flatMap.2 ⟨r,mem_of_getElem? hr2,mem_flatMap.2 ⟨c,mem_of_getElem? hj,hq⟩⟩)
    .subst hn
     exact⟨rfl,.v _ _ rfl⟩
   .cases h
  .cases h
 .cases h
theorem Sk(sp:List (Spec P X w0))(f:FuncId)(x:Operand)(args:Array Operand)(ts:Array TypeId)(more:List SV)(vals:List Value)(t:Nat)(ho:o.op= .call { callee:=.value x,args,argTypes:=ts })(hx:a.eval x= .func (.func f) #[] vals.toArray)
  (hml:more.length=vals.length) (hmore:∀(j:Nat) (v:SV) (y:Value),more[j]?=some v->vals[j]?=some y->Ap (hp w) fz lab I H v y) (hmd:∀v∈more,Dom H v.names)
  (hE:AtE (hp w) fz lab I H E a) (hW:WFE E H) (hA:AtW X w0 I lab fz H w) (ht:H t=none) (h:Im sp E H f args.toList more t=some (c,e,fp)) (hc:c):DN P o a w X w0 I lab fz H e:=by
 simp only[Im]at h
 split at h
 .rename_i s vs hs hr
  simp only[map_eq_some_iff,jP]at h
  obtain⟨⟨c',e',fp'⟩,hfn,rfl,rfl,rfl⟩:=h
  obtain⟨hg,hc'⟩:=hc
  obtain⟨q1,q2,q3⟩:=Lz hE hW hr hg
  have hf:=eM hs
  refine .inr (.inr (.inl ⟨f,(args.toList.map a.eval++vals).toArray,?_,?_⟩))
  .have hcall:=s.call (args.toList.map a.eval++vals).toArray w
   rw[hf]at hcall
   simp only[execOp,ho,resolve,hx,Deferred.ofValue,invoke,Sem.run_bind,Sem.run_pure,Result.andThen_ok,Array.empty_append]
   have he:args.map a.eval++vals.toArray=(args.toList.map a.eval++vals).toArray:=by apply Array.ext';simp
   rw[he]
   exact hcall
  .have:=s.ok w I lab fz H t (vs++more) (args.toList.map a.eval++vals) c' _ _ hA ht hfn hc' (by
    intro v hv
    rcases List.mem_append.1 hv with hv|hv
    .exact q3 v hv
    .exact hmd v hv) (by simp[q1,hml]) (by
    intro j v y h1 h2
    rw[getElem?_append]at h1 h2
    rw[length_map,<- q1]at h2
    split at h1
    .rename_i hlt;rw[if_pos hlt]at h2;exact q2 j v y h1 h2
    .rename_i hlt;rw[if_neg hlt]at h2;exact hmore _ v y h1 h2)
   rw[hf]at this
   exact this
 .cases h
theorem gf(sp:List (Spec P X w0))(s:Nat)(args:Array Operand)(ts:Array TypeId)(t:Nat)(ho:o.op= .call { callee:=.value (.tmp s),args,argTypes:=ts })
  (hE:AtE (hp w) fz lab I H E a) (hW:WFE E H) (hA:AtW X w0 I lab fz H w) (ht:H t=none) (h:K0 sp E H s args.toList t=some (c,e,fp)) (hc:c):DN P o a w X w0 I lab fz H e:=by
 unfold K0 at h
 split at h
 .rename_i f caps hf
  simp only[map_eq_some_iff,jP]at h
  obtain⟨⟨c',r⟩,h1,rfl,h2⟩:=h
  simp only at h2
  subst h2
  unfold fnSV at hf
  split at hf
  .rename_i f' u v hv
   split at hf
   .rename_i hsz
    simp only[jS,jP]at hf
    obtain⟨rfl,rfl⟩:=hf
    have hx:=Gq (AL hE hv hc.1) rfl
    rw[Array.eq_empty_of_size_eq_zero hsz.1,Array.eq_empty_of_size_eq_zero hsz.2]at hx
    exact Sk sp f' (.tmp s) args ts [] [] t ho hx rfl (by simp) (by simp) hE hW hA ht h1 hc.2
   .cases hf
  .rename_i f' cs hv
   split at hf
   .simp only[jS,jP]at hf
    obtain⟨rfl,rfl⟩:=hf
    have hd:=(AL hE hv hc.1).2
    have hdom:=hW.rd hv hc.1
    generalize hq:a.eval (.tmp s)=q at hd
    cases hd with
    |fn _ _ _ vals hvals hone=>
     have hlen:cs.length=vals.length:=by have:=congrArg List.length hvals;simpa using this
     refine Sk sp f' (.tmp s) args ts (cs.map .one) vals t ho hq (by simp[hlen]) ?_ ?_ hE hW hA ht h1 hc.2
     .intro j v y g1 g2
      simp only[getElem?_map,map_eq_some_iff]at g1
      obtain⟨cc,g1,rfl⟩:=g1
      have:=congrArg (λl=>l[j]?) hvals
      simp only[getElem?_map,g1,g2,map_some,jS]at this
      cases cc<;>simp only[Mt,jS,reduceCtorEq]at this<;>subst this
      .exact Hg (hone _ (mem_of_getElem? g2))
      .exact⟨rfl,.p _ _ _ _⟩
      .exact⟨rfl,.s _ _⟩
     .intro v hv2
      obtain⟨cc,g1,rfl⟩:=mem_map.1 hv2
      intro n hn
      refine hdom n (mem_flatMap.2 ⟨cc,g1,?_⟩)
      obtain⟨j,hj⟩:=mem_iff_getElem?.1 g1
      have:=congrArg (λl=>l[j]?) hvals
      simp only[getElem?_map,hj,map_some]at this
      cases hvj:vals[j]? with
      |none=>simp_all
      |some q=>
       rw[hvj]at this
       simp only[map_some,jS]at this
       cases cc<;>simp only[Mt,reduceCtorEq]at this
       .cases hn
       .exact hn
       .exact hn
   .cases hf
  .cases hf
 .cases h
theorem Cm{d:Option Nat}{f:Nat->Res}(h:fresh H d f=some (c,e,fp)):∃fp',H (d.getD 999999)=none/\f (d.getD 999999)=some (c,e,fp')/\fp=d.getD 999999::fp':=by
 unfold fresh at h
 split at h
 .rename_i hn
  simp only[map_eq_some_iff,jP]at h
  obtain⟨⟨c',e',f'⟩,h1,h2,h3,h4⟩:=h
  simp only at h2 h3 h4
  subst h2;subst h3
  exact⟨f',hn,h1,h4.symm⟩
 cases h
theorem gg(T:TypeId)(x:Operand)(ho:o.op= .makeInterface T x)(hE:AtE (hp w) fz lab I H E a)(hA:AtW X w0 I lab fz H w)(h:Ns P E T x=some (c,e,fp))(hc:c):DN P o a w X w0 I lab fz H e:=by
 unfold Ns at h
 split at h
 .rename_i v hv ht
  simp only[jS,jP]at h
  obtain⟨rfl,rfl,rfl⟩:=h
  obtain⟨u,hu,hcl⟩:=bind_eq_some_iff.1 hv
  have hx:=Gq (AL hE hu hc) hcl
  refine .inl ⟨.iface T v,w,?_,Uw hA (Hg rfl)⟩
  simp only[execOp,ho,hx,Sem.run_bind,run_makeInterface w T v (show P.concrete T=true from ht),Result.andThen_ok,Sem.run_pure]
 cases h
theorem gh(x:Operand)(t:Nat)(ho:o.op= .panic x)(hE:AtE (hp w) fz lab I H E a)(hA:AtW X w0 I lab fz H w)(h:K1 X E H x t=some (c,e,fp))(hc:c):DN P o a w X w0 I lab fz H e:=by
 unfold K1 at h
 split at h
 .rename_i T y hv
  simp only[jS,jP]at h
  obtain⟨rfl,rfl,rfl⟩:=h
  have hx:=Gq (AL hE hv hc.1) rfl
  refine .inr (.inr (.inr ⟨.iface T y,?_,⟨_,_,rfl⟩,I,lab,fz,H,hA,hc.2⟩))
  simp only[execOp,ho,Instr.panic,hx]
  rfl
 cases h
theorem V2{α:Type}(key:ByteArray):∀(L:List MapEntry) (es:List (List UInt8×α)) (i:Nat),L.length=es.length->(∀(j:Nat) (p:List UInt8×α),es[j]?=some p->∃e,L[j]?=some e/\e.key= .string (bs p.1))->
  (AH es key.toList=none/\Instr.findNow .string (.string key) L i=some none/\∀x,B5 es key.toList x=es++[(key.toList,x)])∨
  ∃(j:Nat) (p:List UInt8×α) (e:MapEntry),es[j]?=some p/\L[j]?=some e/\p.1=key.toList/\AH es key.toList=some p.2/\Instr.findNow .string (.string key) L i=some (some (i+j,e.val))/\∀x,B5 es key.toList x=es.set j (key.toList,x)
 |[],[],i,_,_=>.inl ⟨rfl,rfl,λ_=>rfl⟩
 |[],_::_,i,h,_=>by simp at h
 |_::_,[],i,h,_=>by simp at h
 |e::L,p::es,i,hl,hk=>by
  obtain⟨e',h1,h2⟩:=hk 0 p rfl
  simp only[getElem?_cons_zero,jS]at h1
  subst h1
  have hs:Instr.sameNow .string (.string key) e.key=some (p.1==key.toList):=by
   rw[h2]
   simp only[Instr.sameNow,b4,IB]
   congr 1
   rw[Bool.eq_iff_iff,beq_iff_eq,beq_iff_eq]
   exact⟨Eq.symm,Eq.symm⟩
  cases hb:(p.1==key.toList) with
  |true=>
   refine .inr ⟨0,p,e,rfl,rfl,by simpa using hb,?_,?_,λx=>?_⟩
   .simp only[AH,hb,if_true]
   .simp only[Instr.findNow,hs,hb,Nat.add_zero]
   simp only[B5,hb,if_true,List.set_cons_zero]
  |false=>
  have ih:=V2 key L es (i+1) (by simpa using hl) λj q hq=>hk (j+1) q (by simpa using hq)
  rcases ih with⟨g1,g2,g3⟩|⟨j,q,e',g0,g1,g2,g3,g4,g5⟩
  .refine .inl ⟨?_,?_,λx=>?_⟩
   .simp only[AH,hb,jB,if_false,g1]
   .simp only[Instr.findNow,hs,hb,g2]
   simp only[B5,hb,jB,if_false,g3,List.cons_append]
  refine .inr ⟨j+1,q,e',by simpa using g0,by simpa using g1,g2,?_,?_,λx=>?_⟩
  .simp only[AH,hb,jB,if_false,g3]
  .simp only[Instr.findNow,hs,hb,g4]
   congr 3;omega
  simp only[B5,hb,jB,if_false,g5,List.set_cons_succ]
theorem Xv{T kt et:TypeId}(h:RP P T=some (kt,et)):P.underlying T=some (.map kt et):=by
 unfold RP at h
 split at h
 .simp_all
 cases h
theorem cg(hA:AtW X w0 I lab fz H w)(t:Nat)(ht:H t=none)(ag:Bool):I6 X w0 w I lab fz H (some (.one (.s t))) [(t,.mp ag [])] (.map (some w.heap.size)) (w.alloc (.map #[] 0)):=by
 obtain⟨p1,p2⟩:=hA.priv ht
 let nv:NV:=⟨some (w.heap.size,0),0,0,0,true⟩
 let lab':Lab:=λb=>if b=w.heap.size then some [t] else lab b
 let I':Nm:=λn=>if n=t then nv else I n
 have hsize:(w.alloc (.map #[] 0)).heap.size=w.heap.size+1:=by simp_all
 have hlt:∀b,b≠w.heap.size->hp (w.alloc (.map #[] 0)) b=hp w b:=by
  intro b hb
  show (w.heap.push _)[b]?=w.heap[b]?
  rw[getElem?_push]
  simp[hb]
 have hself:hp (w.alloc (.map #[] 0)) w.heap.size=some (.map #[] 0):=by
  show (w.heap.push _)[w.heap.size]?=_
  rw[getElem?_push]
  simp
 have hz:∀b,fz b->fz b/\hp (w.alloc (.map #[] 0)) b=hp w b:=λb hb=>⟨hb,hlt b (by have:=(hA.fzl b hb).1;omega)⟩
 have hI:∀n,(H n).isSome=true->I' n=I n:=by grind
 have hl:∀k,∀b ρ,lab b=some ([k]++ρ)->lab' b=some ([k]++ρ)/\hp (w.alloc (.map #[] 0)) b=hp w b:=by
  intro k b ρ hb
  have:b≠w.heap.size:=by have:=(hA.own b _ hb).1;omega
  exact⟨by simp only[lab',this,if_false];exact hb,hlt b this⟩
 have hold:∀n,n≠t->updH H [(t,.mp ag [])] n=H n:=by intro n h;simp[updH,upd,h]
 have hnew:updH H [(t,.mp ag [])] t=some (.mp ag []):=by simp[updH,upd]
 refine⟨I',lab',fz,⟨λn ch h=>?_,λn ch h=>?_,λb π hb=>?_,λb hb=>?_,hA.fzo,?_,λp hp'=>?_⟩,λs hs=>?_,⟨hz,hI,λk u p x hk hv=>?_⟩⟩
 .by_cases e:n=t
  .subst e
   rw[hnew]at h;simp only[jS]at h;subst h
   exact⟨w.heap.size,#[],0,by simp[I',nv],by simp[lab'],hself,rfl,by simp⟩
  rw[hold n e]at h
  exact Lw hA h hz hI (hl n)
 .by_cases e:n=t
  .subst e
   rw[hnew]at h;simp only[jS]at h;subst h
   intro q hq;cases hq
  rw[hold n e]at h
  exact GT _ (hA.wf n ch h)
 .by_cases e:b=w.heap.size
  .rw[hsize];exact⟨by omega,.inl (by have:=hA.kept.size;omega)⟩
  simp only[lab',e,if_false]at hb
  have:=hA.own b π hb
  exact⟨by rw[hsize];omega,this.2⟩
 .have:=hA.fzl b hb
  exact⟨by rw[hsize];omega,by simp[lab',show b≠w.heap.size by omega,this.2]⟩
 .refine⟨hA.kept.os,hA.kept.tape,hA.kept.output,by rw[hsize];have:=hA.kept.size;omega,λb hb hm=>?_⟩
  have hs:=hA.kept.size
  rw[<- hA.kept.block b hb hm]
  exact hlt b (by omega)
 .obtain⟨g1,g2⟩:=hA.fix p hp'
  exact⟨GT (l:=[p.1]) _ (by intro q hq;simp at hq;subst hq;exact g1) p.1 (by simp),by rw[<- g2];exact hI _ g1⟩
 .simp only[jS]at hs
  subst hs
  have hx:(Value.map (some w.heap.size))=(I' t).v:=by simp[I',nv,NV.v]
  rw[hx]
  exact⟨rfl,.s _ _⟩
 have hkt:k≠t:=by rintro rfl;rw[ht]at hk;cases hk
 exact Fg hA (hold k hkt) (hI k hk) (λb ρ hb=>(hl k b ρ hb).2) hv
theorem bS(T:TypeId)(t:Nat)(ho:o.op= .makeMap T none)(hA:AtW X w0 I lab fz H w)(ht:H t=none)(h:Mb P T t=some (c,e,fp))(_hc:c):DN P o a w X w0 I lab fz H e:=by
 unfold Mb at h
 split at h
 .split at h
  .rename_i ag _ _
   simp only[jS,jP]at h
   obtain⟨rfl,rfl,rfl⟩:=h
   refine .inl ⟨_,_,?_,cg hA t ht ag⟩
   simp only[execOp,ho,map_none]
   rfl
  cases h
 cases h
def U2(h:Bf)(fz:Nat->Prop)(lab:Lab)(I:Nm):Option Bool->List C->Value->Prop
 |some true,row,v=>∃arr,v= .agg arr/\arr.size=row.length/\∀(j:Nat) (c:C),row[j]?=some c->∃y,arr[j]?=some y/\c.stor=true/\Den h fz lab I [] c y
 |_,row,v=>∃c,row=[c]/\c.stor=true/\Den h fz lab I [] c v
theorem vY(hA:AtW X w0 I lab fz H w)(hs:SC (hp w) fz lab I H cc y){ag:Option Bool}{es:List (List UInt8×List C)}{f:List Nat}(hm:RR H cc=some (ag,es,f)):
  ∃entries:Array MapEntry,((y= .map none/\entries = #[])∨∃r clock,y= .map (some r)/\w.heap[r]?=some (.map entries clock))/\entries.size=es.length/\
   ∀(i:Nat) (p:List UInt8×List C),es[i]?=some p->∃e,entries[i]?=some e/\e.key= .string (bs p.1)/\U2 (hp w) fz lab I ag p.2 e.val:=by
 unfold RR at hm
 split at hm
 .rename_i k
  split at hm
  .rename_i ag' es' hk
   simp only[jS,jP]at hm
   obtain⟨rfl,rfl,rfl⟩:=hm
   obtain⟨r,entries,clock,g1,g2,g3,g4,g5⟩:=hA.h k _ hk
   have hy:y= .map (some r):=by
    have:=hs.2
    cases this
    rw[g1];rfl
   refine⟨entries,.inr ⟨r,clock,hy,g3⟩,g4,λi p hi=>?_⟩
   obtain⟨e,q1,q2,q3⟩:=g5 i p hi
   refine⟨e,q1,q2,?_⟩
   cases ag'<;>exact q3
  .cases hm
 .rename_i es0
  simp only[jS,jP]at hm
  obtain⟨rfl,rfl,rfl⟩:=hm
  have h2:=hs.2
  cases h2 with
  |d _ _ _ r=>
   cases r with
   |mp _ b entries clock hz hb hl hk=>
    refine⟨entries,.inr ⟨b,clock,rfl,hb⟩,by simpa using hl,λi p hi=>?_⟩
    simp only[getElem?_map,map_eq_some_iff]at hi
    obtain⟨q,hq,rfl⟩:=hi
    obtain⟨e,q1,q2,q3,q4⟩:=hk i q hq
    exact⟨e,q1,q2,.v q.2,rfl,rfl,by rw[q3];exact .v _ _ q4⟩
 .simp only[jS,jP]at hm
  obtain⟨rfl,rfl,rfl⟩:=hm
  have hy:y= .map none:=by
   have:=hs.2
   cases this
   rfl
  exact⟨#[],.inl ⟨hy,rfl⟩,rfl,by simp⟩
 .cases hm
theorem pA{r:Nat}{es:Array MapEntry}{clock:Nat}(hb:w.heap[r]?=some (.map es clock)):(getObj r).run P w= .ok (.map es clock) w:=by
 simp[getObj,Sem.run,hb]
theorem WG{T kt et:TypeId}{mv:Value}{entries:Array MapEntry}{key:ByteArray}{z:Value}(ok:Bool)(hu:P.underlying T=some (.map kt et))(hks:P.underlying kt=some .string)(hz:D6 P et=some z)
  (hy:(mv= .map none/\entries = #[])∨∃r clock,mv= .map (some r)/\w.heap[r]?=some (.map entries clock)) (res:Option (Nat×Value)) (hf:Instr.findNow .string (.string key) entries.toList 0=some res) :
  (Instr.lookup T mv (.string key) ok).run P w= .ok (if ok=true then .tuple #[(res.map (·.2)).getD z,.bool res.isSome] else (res.map (·.2)).getD z) w:=by
 have hck:∀b,(Instr.checkKey b 10000 kt (.string key)).run P w= .ok () w:=λb=>by
  unfold Instr.checkKey
  simp only[Sem.run_bind,run_underlying hks,Result.andThen_ok,Sem.run_pure]
 have hfk:(Instr.findKey kt (.string key) entries.toList).run P w= .ok res w:=by
  simp only[Instr.findKey,Sem.run_bind,run_underlying hks,Result.andThen_ok,hf,Sem.run_pure]
 unfold Instr.lookup
 rcases hy with⟨rfl,rfl⟩|⟨r,clock,rfl,hr⟩
 .simp only[Sem.run_bind,run_underlying hu,Result.andThen_ok,Sem.run_pure,hck,hfk]
  exact AA1
 .simp only[Sem.run_bind,run_underlying hu,Result.andThen_ok,Sem.run_pure,pA hr,hck,hfk]
  exact AA1
theorem eO{ok:Bool}{row:List C}{v:Value}{has:Bool}(h1:ag=true->∃arr,v= .agg arr/\ER (hp w) fz lab I H row arr)(h2:ag=false->∃c,row=[c]/\SC (hp w) fz lab I H c v):
  Ap (hp w) fz lab I H (lkV ag ok row has) (if ok=true then .tuple #[v,.bool has] else v):=by
 have hb:SC (hp w) fz lab I H (.v (.bool has)) (.bool has):=⟨rfl,.v _ _ rfl⟩
 cases ag with
 |true=>
  obtain⟨arr,rfl,h3⟩:=h1 rfl
  cases ok with
  |true=>
   refine⟨#[.agg arr,.bool has],rfl,rfl,λj p hj=>?_⟩
   match j,hj with
   |0,hj=>simp only[getElem?_cons_zero,jS]at hj;subst hj;exact⟨_,rfl,arr,rfl,h3⟩
   |1,hj=>simp only[getElem?_cons_succ,getElem?_cons_zero,jS]at hj;subst hj;exact⟨_,rfl,hb⟩
   |j+2,hj=>simp at hj
  |false=>exact⟨arr,rfl,h3⟩
 |false=>
  obtain⟨c,rfl,h3⟩:=h2 rfl
  cases ok with
  |true=>
   refine⟨#[v,.bool has],rfl,rfl,λj p hj=>?_⟩
   match j,hj with
   |0,hj=>simp only[getElem?_cons_zero,jS]at hj;subst hj;exact⟨_,rfl,h3⟩
   |1,hj=>simp only[getElem?_cons_succ,getElem?_cons_zero,jS]at hj;subst hj;exact⟨_,rfl,hb⟩
   |j+2,hj=>simp at hj
  |false=>exact h3
theorem lA{es:List (List UInt8×List C)}{f:List Nat}(hm:RR H cc=some (none,es,f)):es=[]:=by
 unfold RR at hm
 split at hm
 .grind
 .simp at hm
 .simp_all
 cases hm
theorem cj(T:TypeId)(x ix:Operand)(ok:Bool)(ho:o.op= .lookup T x ix ok)(hE:AtE (hp w) fz lab I H E a)(hA:AtW X w0 I lab fz H w)(h:Ie P E H T x ix ok=some (c,e,fp))(hc:c):DN P o a w X w0 I lab fz H e:=by
 unfold Ie at h
 split at h
 .rename_i cc key kt et h1 h2 hT
  split at h
  .rename_i z ag ag' es f hk hz hag hm
   simp only[rV,jS,jP]at h
   obtain⟨rfl,rfl,rfl⟩:=h
   obtain⟨g1,g2,hok,hza,hag'⟩:=hc
   have e1:=AL hE h1 g1
   have e2:=Sh (AL hE h2 g2)
   obtain⟨entries,hy,hlen,hent⟩:=vY hA e1 hm
   have hfind:=V2 key entries.toList es 0 (by simpa using hlen) λj p hj=>by grind
   rcases hfind with⟨q1,q2,_⟩|⟨j,p,ee,q0,q1,q2,q3,q4,_⟩
   .have hrun:=WG (w:=w) ok (Xv hT) (Me hk) hz hy none q2
    refine CF hA (by simp only[execOp,ho,e2,Sem.run_bind,hrun,Result.andThen_ok,Sem.run_pure];rfl) ?_
    rw[q1]
    have hzd:=LW (w:=w) (fz:=fz) (lab:=lab) (I:=I) (H:=H) hok
    refine eO (λha=>?_) λha=>?_
    .rw[ha]at hza
     cases z with
     |agg cs=>obtain⟨arr,r1,r2⟩:=hzd;simp only[Value.agg.injEq]at r1;subst r1;exact⟨cs,rfl,r2⟩
     |tuple vs=>cases hza
     |_=>cases hza
    rw[ha]at hza
    cases z with
    |agg cs=>cases hza
    |tuple vs=>simp[okV]at hok
    |_=>exact⟨_,rfl,hzd⟩
   have hrun:=WG (w:=w) ok (Xv hT) (Me hk) hz hy (some (0+j,ee.val)) q4
   refine CF hA (by simp only[execOp,ho,e2,Sem.run_bind,hrun,Result.andThen_ok,Sem.run_pure];rfl) ?_
   rw[q3]
   obtain⟨e',r1,r2,r3⟩:=hent j p q0
   rw[getElem?_toList,r1]at q1
   simp only[jS]at q1
   subst q1
   have hag2:ag'=some ag:=by
    rcases hag' with e|e
    .subst e;rw[lA hm]at q0;simp at q0
    exact e
   subst hag2
   refine eO (λha=>?_) λha=>?_
   .subst ha
    obtain⟨arr,s1,s2,s3⟩:=r3
    exact⟨arr,s1,s2,λj c hj=>by obtain⟨y,y1,y2,y3⟩:=s3 j c hj;exact⟨y,y1,HN y2 y3⟩⟩
   subst ha
   obtain⟨c,s1,s2,s3⟩:=r3
   exact⟨c,s1,HN s2 s3⟩
  cases h
 cases h
theorem gi{h:Bf}(hz:∀b,fz b->fz b/\h' b=h b){ag:Option Bool}{row:List C}{v:Value}(r:U2 h fz lab I ag row v):U2 h' fz lab' I ag row v:=by
 have fl:∀c:C,c.stor=true->c.flat=true:=by intro c hc;cases c<;>first|rfl|(simp[C.stor]at hc)
 cases ag with
 |none=>obtain⟨c,a1,a2,a3⟩:=r;exact⟨c,a1,a2,DT hz (fl c a2) a3 λ_ _=>rfl⟩
 |some b=>
 cases b with
 |false=>obtain⟨c,a1,a2,a3⟩:=r;exact⟨c,a1,a2,DT hz (fl c a2) a3 λ_ _=>rfl⟩
 |true=>
 obtain⟨arr,a1,a2,a3⟩:=r
 refine⟨arr,a1,a2,λj c hc=>?_⟩
 obtain⟨y,b1,b2,b3⟩:=a3 j c hc
 exact⟨y,b1,b2,DT hz (fl c b2) b3 λ_ _=>rfl⟩
theorem eP(hA:AtW X w0 I lab fz H w){r clock clock':Nat}{es es':List (List UInt8×List C)}{entries entries':Array MapEntry}(hk:H k=some (.mp ag es))(hI:I k=⟨some (r,0),0,0,0,true⟩)(hlr:lab r=some [k])
  (hb:w.heap[r]?=some (.map entries clock)) (hsz:entries'.size=es'.length) (hent:∀(i:Nat) (p:List UInt8×List C),es'[i]?=some p->∃e,entries'[i]?=some e/\e.key= .string (bs p.1)/\U2 (hp w) fz lab I (some ag) p.2 e.val)
  (hn:∀p∈es',Dom H (p.2.flatMap C.names)) (x:Value):I6 X w0 w I lab fz H none [(k,.mp ag es')] x { w with heap:=w.heap.setIfInBounds r (.map entries' clock') }:=by
 have hrl:r<w.heap.size:=(Array.getElem?_eq_some_iff.1 hb).1
 have hs:({ w with heap:=w.heap.setIfInBounds r (.map entries' clock') }:World).heap.size=w.heap.size:=by simp
 have hne:∀c,c≠r->hp { w with heap:=w.heap.setIfInBounds r (.map entries' clock') } c=hp w c:=by grind
 have hse:hp { w with heap:=w.heap.setIfInBounds r (.map entries' clock') } r=some (.map entries' clock'):=by simp_all
 have hz:∀c,fz c->fz c/\hp { w with heap:=w.heap.setIfInBounds r (.map entries' clock') } c=hp w c:=λc hc=>⟨hc,hne c (by rintro rfl;have:=(hA.fzl c hc).2;rw[hlr]at this;cases this)⟩
 have hl:∀k2,k2≠k->∀c ρ,lab c=some ([k2]++ρ)->lab c=some ([k2]++ρ)/\hp { w with heap:=w.heap.setIfInBounds r (.map entries' clock') } c=hp w c:=by grind
 have hself:updH H [(k,.mp ag es')] k=some (.mp ag es'):=by simp[updH,upd]
 have hoth:∀k2,k2≠k->updH H [(k,.mp ag es')] k2=H k2:=by intro k2 h;simp[updH,upd,h]
 refine⟨I,lab,fz,⟨?_,?_,?_,?_,hA.fzo,?_,?_⟩,(λs hs=>by cases hs),hz,λ_ _=>rfl,?_⟩
 .intro k2 ch h
  by_cases e:k2=k
  .subst e
   rw[hself]at h;simp only[jS]at h;subst h
   refine⟨r,entries',clock',hI,hlr,hse,hsz,λi p hp'=>?_⟩
   obtain⟨e,q1,q2,q3⟩:=hent i p hp'
   have q4:=gi (lab':=lab) hz q3
   refine⟨e,q1,q2,?_⟩
   cases ag<;>exact q4
  .rw[hoth k2 e]at h
   exact Lw hA h hz (λ_ _=>rfl) (hl k2 e)
 .intro k2 ch h
  by_cases e:k2=k
  .subst e
   rw[hself]at h;simp only[jS]at h;subst h
   apply GT
   intro n hn'
   obtain⟨p,hp',hn'⟩:=mem_flatMap.1 hn'
   exact hn p hp' n hn'
  .rw[hoth k2 e]at h
   exact GT _ (hA.wf k2 ch h)
 .intro c π hc;rw[hs];exact hA.own c π hc
 .intro c hc;rw[hs];exact hA.fzl c hc
 .refine⟨hA.kept.os,hA.kept.tape,hA.kept.output,by rw[hs];exact hA.kept.size,λc hc hm=>?_⟩
  rw[<- hA.kept.block c hc hm]
  refine hne c ?_
  rintro rfl
  rcases (hA.own c _ hlr).2 with h|h
  .omega
  .exact hm h
 .exact AAd
 .intro k2 u2 p y hk2 hv2
  by_cases e:k2=k
  .subst e;exact⟨hv2.1,λu' z es2 h2=>by rw[hself]at h2;cases h2⟩
  .exact Fg hA (hoth k2 e) rfl (λc ρ hc=>(hl k2 e c ρ hc).2) hv2
theorem Qk(T:TypeId)(x k v:Operand)(hrun0:∀(ρ:Operand->Value),execOp ρ o=(do Instr.mapUpdate T (ρ x) (ρ k) (ρ v);pure .skip))(hod:o.dst=none)(hE:AtE (hp w) fz lab I H E a)(hW:WFE E H)(hA:AtW X w0 I lab fz H w)
  (h:Ee P E H T x k v=some (c,e,fp)) (hc:c):DN P o a w X w0 I lab fz H e:=by
 unfold Ee at h
 split at h
 .rename_i n key sv kt et h1 h2 h3 hT
  split at h
  .rename_i ag es hn hk
   simp only[jS,jP]at h
   obtain⟨rfl,rfl,rfl⟩:=h
   obtain⟨g1,g2,g3,htup,hag,hst⟩:=hc
   obtain⟨r,entries,clock,i1,i2,i3,i4,i5⟩:=hA.h n _ hn
   have e1:a.eval x= .map (some r):=by
    have:=(AL hE h1 g1).2
    generalize a.eval x=q at this
    cases this
    rw[i1];rfl
   have e2:=Sh (AL hE h2 g2)
   have e3:=AL hE h3 g3
   have hdv:=hW.rd h3 g3
   have hfind:=V2 key entries.toList es 0 (by simpa using i4) λj p hj=>by grind
   have hold:∀(i:Nat) (p:List UInt8×List C),es[i]?=some p->∃e,entries[i]?=some e/\e.key= .string (bs p.1)/\U2 (hp w) fz lab I (some ag) p.2 e.val:=by
    intro i p hp'
    obtain⟨e,q1,q2,q3⟩:=i5 i p hp'
    refine⟨e,q1,q2,?_⟩
    cases ag<;>exact q3
   have hnold:∀p∈es,Dom H (p.2.flatMap C.names):=λp hp' m hm=>hA.wf n _ hn m (mem_flatMap.2 ⟨p,hp',hm⟩)
   have hnv:Dom H (sv.cells.flatMap C.names):=by rw[Gk sv htup];exact hdv
   have hval:U2 (hp w) fz lab I (some ag) sv.cells (a.eval v):=by
    subst hag
    cases sv with
    |one c0=>exact⟨c0,rfl,all_eq_true.1 hst c0 (by simp[SV.cells]),Ju (all_eq_true.1 hst c0 (by simp[SV.cells])) e3⟩
    |agg l=>
     obtain⟨arr,s1,s2⟩:=e3
     refine⟨arr,s1,s2.1,λj c0 hj=>?_⟩
     obtain⟨y,y1,y2⟩:=s2.2 j c0 hj
     have:=all_eq_true.1 hst c0 (mem_of_getElem? hj)
     exact⟨y,y1,this,Ju this y2⟩
    |tup l=>cases htup
   have hks:=Me hk
   have hu:=Xv hT
   have hck:∀b,(Instr.checkKey b 10000 kt (.string key)).run P w= .ok () w:=λb=>by
    unfold Instr.checkKey
    simp only[Sem.run_bind,run_underlying hks,Result.andThen_ok,Sem.run_pure]
   have hfk:∀res,Instr.findNow .string (.string key) entries.toList 0=some res->(Instr.findKey kt (.string key) entries.toList).run P w= .ok res w:=λres hr=>by
    simp only[Instr.findKey,Sem.run_bind,run_underlying hks,Result.andThen_ok,hr,Sem.run_pure]
   have hkey:(.string key:Value)= .string (bs key.toList):=by rw[PB]
   rcases hfind with⟨q1,q2,q5⟩|⟨j,p,ee,q0,q1,q2,q3,q4,q5⟩
   .have hr2:(Instr.mapUpdate T (.map (some r)) (.string key) (a.eval v)).run P w= .ok () { w with heap:=w.heap.setIfInBounds r (.map (entries.push { key:=.string key,val:=a.eval v,born:=clock }) (clock+1)) }:=by
     unfold Instr.mapUpdate
     simp only[Sem.run_bind,run_underlying hu,Result.andThen_ok,pA i3,hck,hfk none q2]
     simp[setObj,Sem.run,i3]
    refine .inr (.inl ⟨{ w with heap:=w.heap.setIfInBounds r (.map (entries.push { key:=.string key,val:=a.eval v,born:=clock }) (clock+1)) },?_,hod,?_⟩)
    .rw[hrun0];simp only[e1,e2,Sem.run_bind,hr2,Result.andThen_ok,Sem.run_pure]
    .rw[q5]
     refine eP hA hn i1 i2 i3 (by simp[i4]) (λi p hi=>?_) (λp hp'=>?_) _
     .by_cases hlt:i<es.length
      .grind
      .have hi0:i=es.length:=by
        have:=(List.getElem?_eq_some_iff.1 hi).1
        simp at this;omega
       subst hi0
       rw[List.getElem?_append_right (Nat.le_refl _)]at hi
       simp only[sub_self,getElem?_cons_zero,jS]at hi
       subst hi
       refine⟨{ key:=.string key,val:=a.eval v,born:=clock },?_,hkey,hval⟩
       rw[getElem?_push]
       simp[i4]
     .grind
   .rw[getElem?_toList]at q1
    have hek:ee.key= .string key:=by grind
    have hkeep:(Instr.keyThatStays (.string key) (.string key)).run P w= .ok (.string key) w:=by
     unfold Instr.keyThatStays
     have:Instr.sameBits 10000 (.string key) (.string key)=true:=by
      unfold Instr.sameBits
      rw[b4];simp
     rw[if_pos this];rfl
    have hr2:(Instr.mapUpdate T (.map (some r)) (.string key) (a.eval v)).run P w= .ok () { w with heap:=w.heap.setIfInBounds r (.map (entries.modify (0+j) λe=>{ e with key:=.string key,val:=a.eval v }) clock) }:=by
     unfold Instr.mapUpdate
     simp only[Sem.run_bind,run_underlying hu,Result.andThen_ok,pA i3,hck,hfk _ q4]
     have hold2:((entries[0+j]?).map (·.key)).getD (.string key)= .string key:=by rw[Nat.zero_add,q1];exact hek
     simp only[hold2,Sem.run_bind,hkeep,Result.andThen_ok]
     simp[setObj,Sem.run,i3]
    refine .inr (.inl ⟨{ w with heap:=w.heap.setIfInBounds r (.map (entries.modify (0+j) λe=>{ e with key:=.string key,val:=a.eval v }) clock) },?_,hod,?_⟩)
    .rw[hrun0];simp only[e1,e2,Sem.run_bind,hr2,Result.andThen_ok,Sem.run_pure]
    .rw[q5]
     have hjl:j<es.length:=(List.getElem?_eq_some_iff.1 q0).1
     refine eP hA hn i1 i2 i3 (by simp[i4]) (λi p hi=>?_) (λp hp'=>?_) _
     .grind
     .grind
  .cases h
 .cases h
theorem V3:∀{vs:List SV} {cs:List C},PC vs=some cs->vs=cs.map .one
 |[],cs,h=>by simp only[PC,jS]at h;subst h;rfl
 | .one c::r,cs,h=>by
  simp only[PC,map_eq_some_iff]at h
  obtain⟨cs',h1,rfl⟩:=h
  rw[List.map_cons,<- V3 h1]
 | .agg _::_,cs,h=>by simp[PC]at h
 | .tup _::_,cs,h=>by simp[PC]at h
theorem vZ(ho:Tz cc=true)(hs:SC (hp w) fz lab I H cc x):Mt I cc=some x:=by
 cases cc<;>simp only[Tz,jB]at ho
 case v=>have:=hs.2;cases this;rfl
 case p=>have:=hs.2;cases this;rfl
 case s=>have:=hs.2;cases this;rfl
theorem Z3(f:FuncId)(first caps:Array Operand)(ho:o.op= .makeFunc (.func f) first caps)(hf:first.toList=[])(hE:AtE (hp w) fz lab I H E a)(hW:WFE E H)(hA:AtW X w0 I lab fz H w)
  (h:Jy E f caps.toList=some (c,e,fp)) (hc:c):DN P o a w X w0 I lab fz H e:=by
 unfold Jy at h
 simp only[bind_eq_some_iff,rV,jS,jP]at h
 obtain⟨vs,hv,cs,hcs,rfl,rfl,rfl⟩:=h
 obtain⟨hg,hok⟩:=hc
 obtain⟨q1,q2,q3⟩:=Lz hE hW hv hg
 have hvs:=V3 hcs
 have hfe:first = #[]:=Array.eq_empty_of_size_eq_zero (by rw[<- Array.length_toList,hf];rfl)
 have hlen:cs.length=caps.toList.length:=by rw[<- q1,hvs];simp
 have hval:∀(j:Nat) (cc:C) (x:Value),cs[j]?=some cc->(caps.toList.map a.eval)[j]?=some x->Mt I cc=some x/\H6 x=true:=by
  intro j cc x h1 h2
  have h3:=q2 j (.one cc) x (by rw[hvs];simp[h1]) h2
  exact⟨vZ (all_eq_true.1 hok cc (mem_of_getElem? h1)) h3,Qc h3⟩
 refine CF hA (x:=.func (.func f) #[] (caps.toList.map a.eval).toArray) ?_ ⟨rfl,.fn [] f cs (caps.toList.map a.eval) ?_ ?_⟩
 .have h1:(caps.map a.eval)=(caps.toList.map a.eval).toArray:=by apply Array.ext';simp
  have h2:(#[]:Array Operand).map a.eval = #[]:=by simp
  simp only[execOp,ho,hfe,h1,h2]
  rfl
 .apply ext_getElem?
  intro j
  simp only[getElem?_map]
  cases hc1:cs[j]? with
  |none=>
   have:caps.toList[j]?=none:=by rw[List.getElem?_eq_none_iff]at hc1 ⊢;omega
   simp[this]
  |some cc=>
   have hj:j<caps.toList.length:=by rw[<- hlen];exact(List.getElem?_eq_some_iff.1 hc1).1
   have h2:(caps.toList.map a.eval)[j]?=some (a.eval caps.toList[j]):=by rw[getElem?_map,getElem?_eq_getElem hj];rfl
   have:=(hval j cc _ hc1 h2).1
   simp only[getElem?_eq_getElem hj,map_some]
   rw[this]
 .intro x hx
  obtain⟨j,hj⟩:=mem_iff_getElem?.1 hx
  have hjl:j<cs.length:=by rw[hlen];have:=(List.getElem?_eq_some_iff.1 hj).1;simpa using this
  exact(hval j _ x (getElem?_eq_getElem hjl) hj).2
theorem A0d(sp:List (Spec P X w0))(hE:AtE (hp w) fz lab I H E a)(hW:WFE E H)(hA:AtW X w0 I lab fz H w)(h:opS sp o E H=some (c,e,fp))(hc:c):DN P o a w X w0 I lab fz H e:=by
 unfold opS at h
 split at h
 .rename_i x ho;exact Yl x (λρ=>by simp only[execOp,ho]) hE hA h hc
 .rename_i x ho;exact Yl x (λρ=>by simp only[execOp,ho]) hE hA h hc
 .rename_i x y z ho;exact kx x y z ho hE hA h hc
 .rename_i T ho;obtain⟨f,h1,h2,_⟩:=Cm h;exact gS T _ ho hA h1 h2 hc
 .rename_i T x ho;obtain⟨f,h1,h2,_⟩:=Cm h;exact ot T x _ ho hE hW hA h1 h2 hc
 .rename_i T ps ho;exact gX T ps ho hE hW hA h hc
 .rename_i T n ps ho;obtain⟨f,h1,h2,_⟩:=Cm h;exact vV T n ps _ ho hE hW hA h1 h2 hc
 .rename_i T x y ho;obtain⟨f,h1,h2,_⟩:=Cm h;exact Xt T x y _ ho hE hA h1 h2 hc
 .rename_i T x ho;exact l6 T x ho hE hA h hc
 .rename_i T x y ho
  split at h
  .rename_i hd;exact gY T x y ho hd hE hW hA h hc
  cases h
 .rename_i op T x y T' ho;exact ou op T T' x y ho hE hA h hc
 .rename_i op T x ho;exact vT op T x ho hE hA h hc
 .rename_i T x f ho;exact Xr T x f ho hE hA h hc
 .rename_i T x f ho;exact gU T x f ho hE hA h hc
 .rename_i T x i ho;exact Xs T x i ho hE hA h hc
 .rename_i T x i ho;exact gV T x i ho hE hA h hc
 .rename_i T x lo hi mx ho;obtain⟨f,h1,h2,_⟩:=Cm h;exact gZ T x lo hi mx _ ho hE hA h1 h2 hc
 .rename_i x i ho;exact bG x i ho hE hA h hc
 .rename_i s d x ho
  split at h
  .rename_i r hr;simp only[jS]at h;subst h;exact bF s d x ho hE hA hr hc
  exact ga s d x ho hE hA h hc
 .rename_i x ho;exact B1A x ho hE hA h hc
 .rename_i T x ho;exact gg T x ho hE hA h hc
 .rename_i T ho;obtain⟨f,h1,h2,_⟩:=Cm h;exact bS T _ ho hA h1 h2 hc
 .rename_i T x i ok ho;exact cj T x i ok ho hE hA h hc
 .exact AAr
 .exact AAr
 .rename_i fn first caps ho
  split at h
  .rename_i f hf;exact Z3 f first caps ho hf hE hW hA h hc
  cases h
 .rename_i x ho;obtain⟨f,h1,h2,_⟩:=Cm h;exact gh x _ ho hE hA h2 hc
 .rename_i cl ho
  obtain⟨ce,args,ts⟩:=cl
  split at h
  .rename_i b hb
   simp only at hb;subst hb
   split at h
   .rename_i b' l1 l2 x y T U h3 h4
    obtain⟨f,h1,h2,_⟩:=Cm h
    exact cf x y T U _ args ts ho h3 h4 hE hA h1 h2 hc
   .rename_i b' l1 l2 x y T U h3 h4
    exact l9 x y T U args ts ho h3 h4 hE hA h hc
   exact bR _ args ts ho hE hW hA h hc
  .rename_i f hf
   simp only at hf;subst hf
   obtain⟨fp',h1,h2,_⟩:=Cm h
   exact Sk sp f (.func f) args ts [] [] _ ho rfl rfl (by simp) (by simp) hE hW hA h1 h2 hc
  .rename_i t ht
   simp only at ht;subst ht
   obtain⟨fp',h1,h2,_⟩:=Cm h
   exact gf sp t args ts _ ho hE hW hA h1 h2 hc
  cases h
 cases h
end
end Go.Sy
