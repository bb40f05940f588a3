/- A symbolic executor for the walk, second make: data that nobody writes is held by value, memory that the call owns by name or by value. This text: the values, what they stand for, and how long they do. No conditions but those in each statement. -/
import Derived.WalkKit
import Derived.WalkLawsBesides
import Derived.Deep.AppendSrc
set_option linter.all false
namespace Go.Sy
open Go.RowKit
variable{x:Value}{P:Program}{π:List Nat}{α β:Type}{t:TypeId}
theorem jL3:(∀{α:Type}{a b:List α},(a++b).length=a.length+b.length)∧(∀{α:Type}{a:α}{b:List α},(a::b).length=b.length+1)∧(∀{α:Type},([]:List α).length=0):=⟨List.length_append,List.length_cons,List.length_nil⟩
theorem jS{a b:α}:(some a=some b)=(a=b):=Option.some.injEq a b
theorem jP{a c:α}{b d:β}:((a,b)=(c,d))=(a=c∧b=d):=Prod.mk.injEq a b c d
theorem jN{a b:Nat}(h:Nat.ble a b=true):a≤b:=Nat.le_of_ble_eq_true h
theorem jB:(false=true)=False:=Bool.false_eq_true
inductive D where
 |v (x:Value)
 |sl (z:List D) (es:List (List D))
 |pt (o:Option (List D))
 |mp (es:List (List UInt8×Value))
def bs(l:List UInt8):ByteArray:=⟨l.toArray⟩
inductive C where
 |any
 |v (x:Value)
 |p (k i j:Nat)
 |s (k:Nat)
 |d (x:D)
 |df (z:List D) (es:List (List D))
 |dp (cs:List D)
 |ov (z:List C) (es:List (List C))
 |fn (f:FuncId) (caps:List C)
 |vw (k u:Nat) (p:List (Nat×Nat))
 |q (k u:Nat) (p:List (Nat×Nat)) (s m o:Nat)
def Gk:Value->Bool
 | .agg _=>false
 | .tuple _=>false
 |_=>true
structure NV where
 b:Option (Nat×Nat)
 len:Nat
 cap:Nat
 s:Nat
 mp:Bool
def slV(b:Option (Nat×Nat))(len cap:Nat):Value:=.slice (b.map λx=>⟨x.1,x.2,none⟩) len cap
def ptV(b:Option (Nat×Nat))(n:Nat):Value:=.pointer (b.map λx=>⟨x.1,x.2+n,none⟩)
def NV.v(n:NV):Value:=if n.mp then .map (n.b.map (·.1)) else slV n.b n.len n.cap
def NV.p(n:NV)(i j:Nat):Value:=ptV n.b (i*n.s+j)
abbrev Nm:=Nat->NV
theorem NV.v_one(n:NV):Gk n.v=true:=by unfold NV.v;split<;>rfl
theorem NV.p_one(n:NV)(i j:Nat):Gk (n.p i j)=true:=rfl
def capN:C->List Nat
 | .p k _ _=>[k]
 | .s k=>[k]
 |_=>[]
def Mi(I:Nm):C->Option Value
 | .p k i j=>some ((I k).p i j)
 | .s k=>some (I k).v
 | .v x=>some x
 |_=>none
def C.names:C->List Nat
 | .p k _ _=>[k]
 | .s k=>[k]
 | .fn _ cs=>cs.flatMap capN
 | .vw k _ _=>[k]
 | .q k _ _ _ _ _=>[k]
 |_=>[]
def C.flat:C->Bool
 | .ov _ _=>false
 |_=>true
def C.stor:C->Bool
 | .ov _ _=>false
 | .vw _ _ _=>false
 | .q _ _ _ _ _ _=>false
 |_=>true
abbrev BZ:=Nat->Option Obj
abbrev Lab:=Nat->Option (List Nat)
inductive Rd (h:BZ) (fz:Nat->Prop):D->Value->Prop where
 |v (x:Value) (h1:Gk x=true):Rd h fz (.v x) x
 |nil (z:List D) (a:Option Addr) (cap:Nat) (h0:a=none->cap=0):Rd h fz (.sl z []) (.slice a 0 cap)
 |sl (z:List D) (es:List (List D)) (b off cap:Nat) (arr:Array Value) (T:TypeId) (m:Nat×Nat) (val:Nat->Nat->Value) (hz:fz b) (hb:h b=some (.cells arr T m)) (hcap:es.length<=cap)
   (hl:∀(i:Nat) (cs:List D),es[i]?=some cs->cs.length=z.length)
   (hc:∀(i j:Nat) (cs:List D) (d:D),es[i]?=some cs->cs[j]?=some d->arr[off+i*z.length+j]?=some (val i j))
   (hr:∀(i j:Nat) (cs:List D) (d:D),es[i]?=some cs->cs[j]?=some d->Rd h fz d (val i j)):Rd h fz (.sl z es) (.slice (some ⟨b,off,none⟩) es.length cap)
 |pnil:Rd h fz (.pt none) (.pointer none)
 |pt (cs:List D) (b off:Nat) (arr:Array Value) (T:TypeId) (m:Nat×Nat) (val:Nat->Value) (hz:fz b) (hb:h b=some (.cells arr T m))
   (hc:∀(j:Nat) (d:D),cs[j]?=some d->arr[off+j]?=some (val j))
   (hr:∀(j:Nat) (d:D),cs[j]?=some d->Rd h fz d (val j)):Rd h fz (.pt (some cs)) (.pointer (some ⟨b,off,none⟩))
 |mp (es:List (List UInt8×Value)) (b:Nat) (entries:Array MapEntry) (clock:Nat) (hz:fz b) (hb:h b=some (.map entries clock)) (hl:entries.size=es.length)
   (hk:∀(i:Nat) (p:List UInt8×Value),es[i]?=some p->∃e,entries[i]?=some e/\e.key= .string (bs p.1)/\e.val=p.2/\Gk p.2=true):Rd h fz (.mp es) (.map (some b))
theorem FS{h h':BZ}{fz fz':Nat->Prop}(hz:∀b,fz b->fz' b/\h' b=h b){d:D}(r:Rd h fz d x):Rd h' fz' d x:=by
 induction r with
 |v x h1=>exact .v x h1
 |nil s a cap h0=>exact .nil s a cap h0
 |sl s es b off cap arr T m val hb hh hcap hl hc _ ih=>exact .sl s es b off cap arr T m val (hz b hb).1 ((hz b hb).2.trans hh) hcap hl hc ih
 |pnil=>exact .pnil
 |pt cs b off arr T m val hb hh hc _ ih=>exact .pt cs b off arr T m val (hz b hb).1 ((hz b hb).2.trans hh) hc ih
 |mp es b entries clock hb hh hl hk=>exact .mp es b entries clock (hz b hb).1 ((hz b hb).2.trans hh) hl hk
def zT:List C->Option TypeId
 | .d (.v (.pointer (some a)))::_=>some a.block
 |_=>none
def zOK(z:List C)(T:TypeId)(off:Nat):Prop:=∀T0,zT z=some T0->T=T0/\off=0
theorem IJ{z:List C}{T:TypeId}{off:Nat}(h:zT z=none):zOK z T off:=λ_ h0=>by rw[h]at h0;cases h0
theorem aF{z:List C}{T:TypeId}(h:zT z=none∨zT z=some T):zOK z T 0:=by
 intro T0 h0
 rcases h with h|h
 .simp_all
 simp_all
theorem Xa{z z':List C}{T:TypeId}{off:Nat}(h:zT z'=none∨zT z'=zT z)(hz:zOK z T off):zOK z' T off:=by
 intro T0 h0
 rcases h with h|h
 .simp_all
 rw[h]at h0;exact hz T0 h0
inductive Den (h:BZ) (fz:Nat->Prop) (lab:Lab) (I:Nm):List Nat->C->Value->Prop where
 |any (π:List Nat) (x:Value) (h1:Gk x=true):Den h fz lab I π .any x
 |v (π:List Nat) (x:Value) (h1:Gk x=true):Den h fz lab I π (.v x) x
 |p (π:List Nat) (k i j:Nat):Den h fz lab I π (.p k i j) ((I k).p i j)
 |s (π:List Nat) (k:Nat):Den h fz lab I π (.s k) (I k).v
 |d (π:List Nat) (x:D) (y:Value) (r:Rd h fz x y):Den h fz lab I π (.d x) y
 |df (π:List Nat) (z:List D) (es:List (List D)) (a:Option Addr) (r:Rd h fz (.sl z es) (.slice a es.length es.length)):Den h fz lab I π (.df z es) (.slice a es.length es.length)
 |dp (π:List Nat) (cs:List D) (y:Value) (r:Rd h fz (.pt (some cs)) y):Den h fz lab I π (.dp cs) y
 |nil (π:List Nat) (z:List C):Den h fz lab I π (.ov z []) (.slice none 0 0)
 |ov (π:List Nat) (z:List C) (es:List (List C)) (b off cap:Nat) (arr:Array Value) (T:TypeId) (val:Nat->Nat->Value) (hb:lab b=some π) (hh:h b=some (.cells arr T (0,0))) (hsz:off+cap*z.length<=arr.size/\zOK z T off) (hcap:es.length<=cap)
   (hl:∀(i:Nat) (cs:List C),es[i]?=some cs->cs.length=z.length)
   (hn:∀(i j:Nat) (cs:List C) (c:C),es[i]?=some cs->cs[j]?=some c->c.names=[])
   (hc:∀(i j:Nat) (cs:List C) (c:C),es[i]?=some cs->cs[j]?=some c->arr[off+i*z.length+j]?=some (val i j))
   (hd:∀(i j:Nat) (cs:List C) (c:C),es[i]?=some cs->cs[j]?=some c->Den h fz lab I (π++[i,j]) c (val i j)):Den h fz lab I π (.ov z es) (.slice (some ⟨b,off,none⟩) es.length cap)
 |fn (π:List Nat) (f:FuncId) (caps:List C) (vals:List Value) (hv:caps.map (Mi I)=vals.map some) (h1:∀x∈vals,Gk x=true):Den h fz lab I π (.fn f caps) (.func (.func f) #[] vals.toArray)
theorem aG{h:BZ}{fz:Nat->Prop}{d:D}(r:Rd h fz d x):Gk x=true:=by
 cases r with
 |v x h1=>exact h1
 |_=>rfl
theorem Jl{h:BZ}{fz:Nat->Prop}{lab:Lab}{I:Nm}{c:C}(r:Den h fz lab I π c x):Gk x=true:=by
 cases r with
 |any _ _ h1=>exact h1
 |v _ _ h1=>exact h1
 |p _ k i j=>exact NV.p_one _ i j
 |s _ k=>exact NV.v_one _
 |d _ _ _ r=>exact aG r
 |df=>rfl
 |dp _ _ _ r=>exact aG r
 |nil=>rfl
 |ov=>rfl
 |fn=>rfl
theorem Vv{I I':Nm}{caps:List C}(h:∀k∈caps.flatMap capN,I' k=I k):caps.map (Mi I')=caps.map (Mi I):=by
 apply List.map_congr_left
 intro c hc
 have:∀k∈capN c,I' k=I k:=λk hk=>h k (List.mem_flatMap.2 ⟨c,hc,hk⟩)
 cases c<;>simp only[Mi,capN,List.mem_cons,List.not_mem_nil,or_false,forall_eq] at*<;> rw[this]
theorem KU{h h':BZ}{fz fz':Nat->Prop}{lab lab':Lab}{I I':Nm}(hz:∀b,fz b->fz' b/\h' b=h b){c:C}(r:Den h fz lab I π c x):
  ∀(π':List Nat),(∀b ρ,lab b=some (π++ρ)->lab' b=some (π'++ρ)/\h' b=h b)->(∀k∈c.names,I' k=I k)->Den h' fz' lab' I' π' c x:=by
 induction r with
 |any π x h1=>intro π' _ _;exact .any π' x h1
 |v π x h1=>intro π' _ _;exact .v π' x h1
 |p π k i j=>intro π' _ hI;rw[<- hI k (by simp[C.names])];exact .p π' k i j
 |s π k=>intro π' _ hI;rw[<- hI k (by simp[C.names])];exact .s π' k
 |d π x y r=>intro π' _ _;exact .d π' x y (FS hz r)
 |df π s es a r=>intro π' _ _;exact .df π' s es a (FS hz r)
 |dp π cs y r=>intro π' _ _;exact .dp π' cs y (FS hz r)
 |nil π s=>intro π' _ _;exact .nil π' s
 |ov π s es b off cap arr T val hb hh hsz hcap hl hn hc _ ih=>
  intro π' hlab _
  have h0:=hlab b [] (by simpa using hb)
  refine .ov π' s es b off cap arr T val (by simpa using h0.1) (h0.2.trans hh) hsz hcap hl hn hc ?_
  intro i j cs c h1 h2
  refine ih i j cs c h1 h2 (π'++[i,j]) ?_ ?_
  .grind
  .grind
 |fn π f caps vals hv h1=>intro π' _ hI;exact .fn π' f caps vals (by rw[Vv hI,hv]) h1
theorem DC{h h':BZ}{fz fz':Nat->Prop}{lab lab':Lab}{I I':Nm}(hz:∀b,fz b->fz' b/\h' b=h b){π':List Nat}{c:C}(hf:c.flat=true)(r:Den h fz lab I π c x)
  (hI:∀k∈c.names,I' k=I k):Den h' fz' lab' I' π' c x:=by
 cases r with
 |any _ _ h1=>exact .any π' x h1
 |v _ _ h1=>exact .v π' x h1
 |p _ k i j=>rw[<- hI k (by simp[C.names])];exact .p π' k i j
 |s _ k=>rw[<- hI k (by simp[C.names])];exact .s π' k
 |d _ x y r=>exact .d π' x _ (FS hz r)
 |df _ s es a r=>exact .df π' s es a (FS hz r)
 |dp _ cs y r=>exact .dp π' cs _ (FS hz r)
 |nil=>cases hf
 |ov=>cases hf
 |fn _ f caps vals hv h1=>exact .fn π' f caps vals (by rw[Vv hI,hv]) h1
def ER(h:BZ)(fz:Nat->Prop)(lab:Lab)(I:Nm)(π:List Nat)(z:List C)(es:List (List C))(x:Value):Prop:=
 (es=[]/\x=slV none 0 0)∨∃b off cap arr T,x=slV (some (b,off)) es.length cap/\lab b=some π/\h b=some (.cells arr T (0,0))/\(off+cap*z.length<=arr.size/\zOK z T off)/\es.length<=cap/\
  ∀(i:Nat) (cs:List C),es[i]?=some cs->cs.length=z.length/\∀(j:Nat) (c:C),cs[j]?=some c->∃y,arr[off+i*z.length+j]?=some y/\Den h fz lab I (π++[i,j]) c y
theorem IX{h:BZ}{fz:Nat->Prop}{lab:Lab}{I:Nm}{z:List C}{es:List (List C)}(r:Den h fz lab I π (.ov z es) x):
  ER h fz lab I π z es x/\∀(i j:Nat) (cs:List C) (c:C),es[i]?=some cs->cs[j]?=some c->c.names=[]:=by
 cases r with
 |nil=>exact⟨.inl ⟨rfl,rfl⟩,by simp⟩
 |ov _ _ _ b off cap arr T val hb hh hsz hcap hl hn hc hd=>
  exact⟨.inr ⟨b,off,cap,arr,T,rfl,hb,hh,hsz,hcap,λi cs h1=>⟨hl i cs h1,λj c h2=>⟨_,hc i j cs c h1 h2,hd i j cs c h1 h2⟩⟩⟩,hn⟩
theorem Vx{h:BZ}{fz:Nat->Prop}{lab:Lab}{I:Nm}{z:List C}{es:List (List C)}(r:ER h fz lab I π z es x)(hn:∀(i j:Nat) (cs:List C) (c:C),es[i]?=some cs->cs[j]?=some c->c.names=[]):
  Den h fz lab I π (.ov z es) x:=by
 classical
 rcases r with⟨rfl,rfl⟩|⟨b,off,cap,arr,T,rfl,hb,hh,hsz,hcap,hc⟩
 .exact .nil π z
 .have key:∀(i j:Nat) (cs:List C) (c:C),es[i]?=some cs->cs[j]?=some c->∃y,arr[off+i*z.length+j]?=some y/\Den h fz lab I (π++[i,j]) c y:=λi j cs c h1 h2=>(hc i cs h1).2 j c h2
  refine .ov π z es b off cap arr T (λi j=>(arr[off+i*z.length+j]?).getD (.bool false)) hb hh hsz hcap (λi cs h1=>(hc i cs h1).1) hn ?_ ?_
  .grind
  .grind
theorem IK{h h':BZ}{fz fz':Nat->Prop}{lab lab':Lab}{I I':Nm}(hz:∀b,fz b->fz' b/\h' b=h b){π':List Nat}{z:List C}{es:List (List C)}(r:ER h fz lab I π z es x)
  (hl:∀b ρ,lab b=some (π++ρ)->lab' b=some (π'++ρ)/\h' b=h b) (hI:∀(i j:Nat) (cs:List C) (c:C),es[i]?=some cs->cs[j]?=some c->∀k∈c.names,I' k=I k):ER h' fz' lab' I' π' z es x:=by
 rcases r with⟨h1,h2⟩|⟨b,off,cap,arr,T,rfl,hb,hh,hsz,hcap,hc⟩
 .exact .inl ⟨h1,h2⟩
 .have h0:=hl b [] (by simpa using hb)
  refine .inr ⟨b,off,cap,arr,T,rfl,by simpa using h0.1,h0.2.trans hh,hsz,hcap,λi cs h1=>⟨(hc i cs h1).1,λj c h2=>?_⟩⟩
  obtain⟨y,hy,hd⟩:=(hc i cs h1).2 j c h2
  refine⟨y,hy,KU hz hd _ ?_ (hI i j cs c h1 h2)⟩
  intro b' ρ hb'
  have:=hl b' ([i,j]++ρ) (by rw[<- List.append_assoc];exact hb')
  rwa [<- List.append_assoc]at this
inductive Ch where
 |dead
 |vec (u:Nat) (z:List C) (es:List (List C))
 |mp (ag:Bool) (es:List (List UInt8×List C))
 |fact (p:Prop)
abbrev Hp:=Nat->Option Ch
def Ek:List (Nat×Nat)->List C->List (List C)->Option C
 |[],_,_=>none
 |[(i,j)],z,es=>(es.getD i z)[j]?
 |(i,j)::p::r,z,es=>match (es.getD i z)[j]? with
  |some (.ov z' es')=>Ek (p::r) z' es'
  |_=>none
def inP:List (Nat×Nat)->List C->List (List C)->Prop
 |[],_,_=>False
 |[(i,_)],_,es=>i<es.length
 |(i,j)::p::r,z,es=>i<es.length/\match (es.getD i z)[j]? with
  |some (.ov z' es')=>inP (p::r) z' es'
  |_=>False
def Ha:List (Nat×Nat)->List C->List (List C)->C->List (List C)
 |[],_,es,_=>es
 |[(i,j)],z,es,c=>es.set i ((es.getD i z).set j c)
 |(i,j)::p::r,z,es,c=>match (es.getD i z)[j]? with
  |some (.ov z' es')=>es.set i ((es.getD i z).set j (.ov z' (Ha (p::r) z' es' c)))
  |_=>es
def flatP:List (Nat×Nat)->List Nat
 |[]=>[]
 |(i,j)::r=>i::j::flatP r
def Hw:Value->Option (Nat×Nat)
 | .slice (some a) _ _=>some (a.block,a.off)
 |_=>none
def AtP(h:BZ):List (Nat×Nat)->Option (Nat×Nat)->List C->List (List C)->Value->Prop
 |[],_,_,_,_=>False
 |[(i,j)],a,z,_,x=>∃b off arr T m,a=some (b,off)/\h b=some (.cells arr T m)/\arr[off+i*z.length+j]?=some x
 |(i,j)::p::r,a,z,es,x=>∃b off arr T m y,a=some (b,off)/\h b=some (.cells arr T m)/\arr[off+i*z.length+j]?=some y/\match (es.getD i z)[j]? with
  |some (.ov z' es')=>AtP h (p::r) (Hw y) z' es' x
  |_=>False
def ovC:Option C->Bool
 |some (.ov _ _)=>true
 |_=>false
def ovP(p:List (Nat×Nat))(z:List C)(es:List (List C)):Bool:=ovC (Ek p z es)
def Vw(h:BZ)(I:Nm)(H:Hp)(k u:Nat)(p:List (Nat×Nat))(x:Value):Prop:=
 Gk x=true/\∀u' z es,H k=some (.vec u' z es)->u<=u'/\(u=u'->inP p z es->ovP p z es=true->AtP h p (I k).b z es x)
def aH(x:Value)(n:Nat):Value:=
 match x with
 | .slice (some a) _ _=>.pointer (some ⟨a.block,a.off+n,none⟩)
 |_=>.pointer none
inductive SV where
 |one (c:C)
 |agg (l:List C)
 |tup (l:List (C ⊕ List C))
section
variable (h:BZ)(fz:Nat->Prop)(lab:Lab)(I:Nm)(H:Hp)
def SC:C->Value->Prop
 | .vw k u p,x=>Vw h I H k u p x
 | .q k u p s m o,x=>∃y,Vw h I H k u p y/\x=aH y (m*s+o)
 |c,x=>c.flat=true/\Den h fz lab I [] c x
def EL(l:List C)(arr:Array Value):Prop:=arr.size=l.length/\∀(j:Nat) (c:C),l[j]?=some c->∃y,arr[j]?=some y/\SC h fz lab I H c y
def fc:C ⊕ List C->Value->Prop
 | .inl c,x=>SC h fz lab I H c x
 | .inr l,x=>∃arr,x= .agg arr/\EL h fz lab I H l arr
def Al:SV->Value->Prop
 | .one c,x=>SC h fz lab I H c x
 | .agg l,x=>∃arr,x= .agg arr/\EL h fz lab I H l arr
 | .tup l,x=>∃arr,x= .tuple arr/\arr.size=l.length/\∀(j:Nat) (p:C ⊕ List C),l[j]?=some p->∃y,arr[j]?=some y/\fc h fz lab I H p y
end
def pNames:C ⊕ List C->List Nat
 | .inl c=>c.names
 | .inr l=>l.flatMap C.names
def SV.names:SV->List Nat
 | .one c=>c.names
 | .agg l=>l.flatMap C.names
 | .tup l=>l.flatMap pNames
def SV.cells:SV->List C
 | .one c=>[c]
 | .agg l=>l
 | .tup _=>[]
theorem o9(x:Value)(n:Nat):Gk (aH x n)=true:=by unfold aH;split<;>rfl
section
variable {h h':BZ}{fz fz':Nat->Prop}{lab lab':Lab}{I I':Nm}{H H':Hp}
theorem QI{c:C}(r:SC h fz lab I H c x):Gk x=true:=by
 unfold SC at r
 split at r
 .exact r.1
 .obtain⟨y,_,rfl⟩:=r;exact o9 y _
 exact Jl r.2
theorem Jm{c:C}(hs:c.stor=true)(r:SC h fz lab I H c x):Den h fz lab I [] c x:=by
 unfold SC at r
 split at r
 .cases hs
 .cases hs
 exact r.2
theorem IL{c:C}(hs:c.stor=true)(r:Den h fz lab I [] c x):SC h fz lab I H c x:=by
 cases c<;>first|exact⟨rfl,r⟩|(simp[C.stor]at hs)
structure Pres(h h':BZ)(fz fz':Nat->Prop)(I I':Nm)(H H':Hp):Prop where
 z:∀b,fz b->fz' b/\h' b=h b
 n:∀k,(H k).isSome=true->I' k=I k
 w:∀k u p x,(H k).isSome=true->Vw h I H k u p x->Vw h' I' H' k u p x
theorem Pres.refl(h:BZ)(fz:Nat->Prop)(I:Nm)(H:Hp):Pres h h fz fz I I H H:=⟨λ_ hb=>⟨hb,rfl⟩,λ_ _=>rfl,λ_ _ _ _ _ hv=>hv⟩
variable (hp:Pres h h' fz fz' I I' H H')
include hp
theorem Xb{c:C}(r:SC h fz lab I H c x)(hI:∀k∈c.names,(H k).isSome=true):SC h' fz' lab' I' H' c x:=by
 unfold SC at r
 split at r
 .exact hp.w _ _ _ _ (hI _ (by simp[C.names])) r
 .obtain⟨y,h1,h2⟩:=r;exact⟨y,hp.w _ _ _ _ (hI _ (by simp[C.names])) h1,h2⟩
 rename_i h1 h2
 have hs:c.stor=true:=by
  cases c<;>first|rfl|(exact absurd rfl (h1 _ _ _))|(exact absurd rfl (h2 _ _ _ _ _ _))|(exact absurd r.1 (by simp[C.flat]))
 exact IL hs (DC hp.z r.1 r.2 λk hk=>hp.n k (hI k hk))
theorem Vy{l:List C}{arr:Array Value}(r:EL h fz lab I H l arr)(hI:∀k∈l.flatMap C.names,(H k).isSome=true):EL h' fz' lab' I' H' l arr:=by
 refine⟨r.1,λj c hc=>?_⟩
 obtain⟨y,h2,h3⟩:=r.2 j c hc
 exact⟨y,h2,Xb hp h3 λk hk=>hI k (List.mem_flatMap.2 ⟨c,List.mem_of_getElem? hc,hk⟩)⟩
theorem jr{p:C ⊕ List C}(r:fc h fz lab I H p x)(hI:∀k∈pNames p,(H k).isSome=true):fc h' fz' lab' I' H' p x:=by
 cases p with
 |inl c=>exact Xb hp r hI
 |inr l=>obtain⟨arr,h1,h2⟩:=r;exact⟨arr,h1,Vy hp h2 hI⟩
theorem js{v:SV}(r:Al h fz lab I H v x)(hI:∀k∈v.names,(H k).isSome=true):Al h' fz' lab' I' H' v x:=by
 cases v with
 |one c=>exact Xb hp r hI
 |agg l=>obtain⟨arr,h1,h2⟩:=r;exact⟨arr,h1,Vy hp h2 hI⟩
 |tup l=>
 obtain⟨arr,h1,h2,h3⟩:=r
 refine⟨arr,h1,h2,λj p hp'=>?_⟩
 obtain⟨y,h4,h5⟩:=h3 j p hp'
 exact⟨y,h4,jr hp h5 λk hk=>hI k (List.mem_flatMap.2 ⟨p,List.mem_of_getElem? hp',hk⟩)⟩
end
def ofV:Value->SV
 | .agg cs=>.agg (cs.toList.map .v)
 | .tuple vs=>.tup (vs.toList.map fun| .agg cs=>.inr (cs.toList.map .v)|x=>.inl (.v x))
 |x=>.one (.v x)
open Go.RowKit
def Ck(P:Program)(t:TypeId):Option Bool:=
 match P.underlying t with
 |some (.struct _)=>some true
 |some (.array _ _)=>some true
 |some _=>some false
 |none=>none
def Am(P:Program)(t:TypeId):Option Nat:=(P.info? t).map (·.size)
def A8(P:Program)(t:TypeId)(f:Nat):Option (Nat×TypeId):=
 match P.underlying t with
 |some (.struct fs)=>(fs[f]?).map λx=>(x.offset,x.type)
 |_=>none
def Cs(P:Program)(t:TypeId):Option Value:=(P.info? t).bind (·.zero)
def PF(P:Program)(t:TypeId):Option IntKind:=
 match P.underlying t with
 |some (.int k)=>some k
 |_=>none
def DD(P:Program)(t:TypeId):Option TypeId:=
 match P.underlying t with
 |some (.slice e)=>some e
 |_=>none
inductive Kd where
 |b|i|s
def tKd(P:Program)(t:TypeId):Option Kd:=
 match P.underlying t with
 |some .bool=>some .b
 |some (.int _)=>some .i
 |some .string=>some .s
 |_=>none
def aI(P:Program):List Field->Option (List (Nat×Kd))
 |[]=>some []
 |f::r=>if f.name = "_" then none else
  match Ck P f.type,tKd P f.type,aI P r with
  |some false,some k,some l=>some ((f.offset,k)::l)
  |_,_,_=>none
def tEq(P:Program)(t:TypeId):Option (List (Nat×Kd)):=
 match P.underlying t with
 |some (.struct fs)=>if P.stoodInHeld t then none else if P.eqGuardType P.depth t then none else aI P fs.toList
 |_=>none
theorem MR{b:Bool}(h:Ck P t=some b)(w:World):(isAgg t).run P w= .ok b w:=by
 unfold Ck at h
 split at h<;>rename_i hu<;>simp at h
 .subst h;simp[isAgg,run_underlying hu]
 .subst h;simp[isAgg,run_underlying hu]
 rename_i d h1 h2
 subst h
 simp only[isAgg,Sem.run_bind,run_underlying hu,Result.andThen_ok]
 cases d<;>simp_all
theorem run_sizeOf{n:Nat}(h:Am P t=some n)(w:World):(sizeOf t).run P w= .ok n w:=by
 unfold Am at h
 simp only[Option.map_eq_some_iff]at h
 obtain⟨i,hi,rfl⟩:=h
 simp[sizeOf,typeInfo,hi]
theorem GF{z:Value}(h:Cs P t=some z)(w:World):(zeroValue t).run P w= .ok z w:=by
 unfold Cs at h
 rw[Option.bind_eq_some_iff]at h
 obtain⟨i,hi,hz⟩:=h
 simp[zeroValue,typeInfo,hi,hz]
theorem A07(l:List Value):zT (l.map .v)=none:=by cases l<;>rfl
theorem SK(z:Value):zT (ofV z).cells=none:=by
 cases z with
 |agg cs=>exact A07 _
 |tuple vs=>
  show zT (SV.cells (.tup _))=none
  simp only[SV.cells]
  first|rfl|(cases vs.toList<;>rfl)
 |_=>rfl
theorem I6(l:List UInt8):(bs l).toList=l:=ByteArray.toList_mk l
theorem A4Z(l:List UInt8):(⟨l.toArray⟩:ByteArray)=bs l:=rfl
theorem Ot(s:ByteArray):bs s.toList=s:=by
 unfold bs;rw[ByteArray.toList_eq]
theorem uk(l:List UInt8):(bs l).size=l.length:=by simp[bs,ByteArray.size]
theorem Hb(s:ByteArray):s.size=s.toList.length:=by rw[<- uk,Ot]
theorem jt(a b:List UInt8):bs a++bs b=bs (a++b):=by
 apply ByteArray.ext;simp[bs]
theorem ju(a b:ByteArray):a++b=bs (a.toList++b.toList):=by
 rw[<- jt,Ot,Ot]
theorem bs_inj{a b:List UInt8}(h:bs a=bs b):a=b:=by rw[<- I6 a,h,I6]
theorem aJ(a b:ByteArray):(a==b)=(a.toList==b.toList):=by
 show (a.data==b.data)=_
 rw[ByteArray.toList_eq,ByteArray.toList_eq,Bool.eq_iff_iff,beq_iff_eq,beq_iff_eq]
 constructor
 .intro h;rw[h]
 simp_all
def eqC:Kd->Value->Value->Option Bool
 | .b,.bool a,.bool b=>some (a==b)
 | .i,.int k a,.int k' b=>if k=k' then some (a==b) else none
 | .s,.string a,.string b=>some (a.toList==b.toList)
 |_,_,_=>none
def eqL(x y:List Value):List (Nat×Kd)->Option Bool
 |[]=>some true
 |(o,k)::r=>
  match x[o]?,y[o]? with
  |some a,some b=>match eqC k a b with
   |some c=>(eqL x y r).map (c&&·)
   |none=>none
  |_,_=>none
def SL(c x y:Bool):Bool:=(c&&x)||(!c&&y)
theorem fe(c x:Bool):SL c x false=(c&&x):=by simp[SL]
theorem jv(c y:Bool):SL c true y=(c||y):=by cases c<;>simp[SL]
def oA(op:BinOp)(a b:Int):Option Bool:=
 match op with
 | .eql=>some (a==b)
 | .neq=>some (a != b)
 | .lss=>some (decide (a<b))
 | .leq=>some (decide (a<=b))
 | .gtr=>some (decide (b<a))
 | .geq=>some (decide (b<=a))
 |_=>none
def arI(op:BinOp)(k:IntKind)(a b:Int):Option (Prop×Int):=
 match op with
 | .add=>some (True,k.wrap (a+b))
 | .sub=>some (True,k.wrap (a-b))
 | .mul=>some (True,k.wrap (a*b))
 | .quo=>some (b≠0,k.wrap (a.tdiv b))
 | .rem=>some (b≠0,a.tmod b)
 |_=>none
def ff(op:BinOp)(a b:List UInt8):Option (Prop×Value):=
 match op with
 | .add=>some (a.length+b.length<=9223372036854775807,.string (bs (a++b)))
 | .eql=>some (True,.bool (a==b))
 | .neq=>some (True,.bool (!(a==b)))
 | .lss=>some (True,.bool (Op.bytesLess a b))
 | .leq=>some (True,.bool (Op.bytesLess a b||a==b))
 | .gtr=>some (True,.bool !(Op.bytesLess a b||a==b))
 | .geq=>some (True,.bool !(Op.bytesLess a b))
 |_=>none
def Xc(P:Program)(op:BinOp)(T:TypeId):Value->Value->Option (Prop×Value)
 | .int k a,.int k' b=>
  if k=k' then
   match arI op k a b with
   |some (c,n)=>some (c,.int k n)
   |none=>(oA op a b).map λx=>(True,.bool x)
  else none
 | .string a,.string b=>ff op a.toList b.toList
 | .bool a,.bool b=>
  match op with
  | .eql=>some (P.underlying T=some .bool,.bool (a==b))
  | .neq=>some (P.underlying T=some .bool,.bool (!(a==b)))
  |_=>none
 | .agg x,.agg y=>
  match tEq P T with
  |some os=>
   match eqL x.toList y.toList os with
   |some c=>
    match op with
    | .eql=>some (True,.bool c)
    | .neq=>some (True,.bool (!c))
    |_=>none
   |none=>none
  |none=>none
 |_,_=>none
theorem A08{a b:Value}{c:Bool}{k:Kd}(hk:tKd P t=some k)
  (h:eqC k a b=some c) (d:Nat) (w:World):(Op.equalIn (d+1) t a b).run P w= .ok c w:=by
 unfold tKd at hk
 split at hk<;>simp only[Option.some.injEq,reduceCtorEq]at hk<;>subst hk<;>rename_i hu
 all_goals (unfold eqC at h;split at h<;>simp_all [Op.equalIn,run_underlying hu,aJ])
theorem cA{x y:Array Value}(d:Nat)(w:World):∀(fs:List Field) (os:List (Nat×Kd)) (c:Bool),
  aI P fs=some os->eqL x.toList y.toList os=some c->(Op.eqFields (d+1) x y fs).run P w= .ok c w:=by
 intro fs
 induction fs with
 |nil=>
  intro os c h1 h2
  simp only[aI,Option.some.injEq]at h1
  subst h1
  simp only[eqL,Option.some.injEq]at h2
  subst h2
  simp[Op.eqFields]
 |cons f fs ih=>
  intro os c h1 h2
  simp only[aI]at h1
  split at h1
  .simp at h1
  .rename_i hn
   split at h1
   .rename_i k l ha hk hl
    simp only[Option.some.injEq]at h1
    subst h1
    simp only[eqL]at h2
    split at h2
    .rename_i a b hx hy
     split at h2
     .rename_i c1 hc1
      simp only[Option.map_eq_some_iff]at h2
      obtain⟨c2,h2,rfl⟩:=h2
      have hp:∀(z:Array Value) (u:Value),z.toList[f.offset]?=some u->(part f.type z f.offset).run P w= .ok u w:=by
       intro z u hz
       rw[Array.getElem?_toList]at hz
       simp only[part,Sem.run_bind,MR ha,Result.andThen_ok,Bool.false_eq_true,if_false,hz,Sem.run_pure]
      simp only[Op.eqFields,hn,ne_eq,not_false_eq_true,if_true,Sem.run_bind,hp x a hx,hp y b hy,Result.andThen_ok,A08 hk hc1]
      cases c1
      .simp
      .grind
     .simp at h2
    .simp at h2
   .simp at h1
theorem oB{T:TypeId}(h:P.underlying T=some .bool)(a b:Bool)(ox oy:Operand)(w:World):
  (do eqGuard .eql T ox oy (.bool a) (.bool b);binOp .eql T (.bool a) (.bool b):Sem Value).run P w= .ok (.bool (a==b)) w:=by
 have e1:(eqGuard .eql T ox oy (.bool a) (.bool b)).run P w= .ok () w:=by simp[eqGuard]
 have e2:binOp .eql T (.bool a) (.bool b)=(do pure (.bool (<- Op.equal T (.bool a) (.bool b)))):=rfl
 have e3:(Op.equal T (.bool a) (.bool b)).run P w= .ok (a==b) w:=run_equalIn_bool' w 9999 T a b h
 simp only[Sem.run_bind,e1,Result.andThen_ok,e2,e3,Sem.run_pure]
theorem oC{T:TypeId}(h:P.underlying T=some .bool)(a b:Bool)(ox oy:Operand)(w:World):
  (do eqGuard .neq T ox oy (.bool a) (.bool b);binOp .neq T (.bool a) (.bool b):Sem Value).run P w= .ok (.bool (!(a==b))) w:=by
 have e1:(eqGuard .neq T ox oy (.bool a) (.bool b)).run P w= .ok () w:=by simp[eqGuard]
 have e2:binOp .neq T (.bool a) (.bool b)=(do pure (.bool (!(<- Op.equal T (.bool a) (.bool b))))):=rfl
 have e3:(Op.equal T (.bool a) (.bool b)).run P w= .ok (a==b) w:=run_equalIn_bool' w 9999 T a b h
 simp only[Sem.run_bind,e1,Result.andThen_ok,e2,e3,Sem.run_pure]
theorem A09{T:TypeId}{os:List (Nat×Kd)}{a b:Array Value}{z:Bool}(hos:tEq P T=some os)(hz:eqL a.toList b.toList os=some z)(w:World):
  P.eqGuardType P.depth T=false/\(Op.equalIn 10000 T (.agg a) (.agg b)).run P w= .ok z w:=by
 unfold tEq at hos
 split at hos
 .rename_i fs hu
  split at hos
  .simp at hos
  .rename_i hst
   split at hos
   .simp at hos
   .rename_i hgt
    have hst':P.stoodInHeld T=false:=by simpa using hst
    have hgt':P.eqGuardType P.depth T=false:=by simpa using hgt
    have hf:P.fieldsOf T=fs:=by simp[Program.fieldsOf,hu]
    have hu':P.underlying T=some (.struct (P.fieldsOf T)):=by rw[hf];exact hu
    have he:=cA (P:=P) (x:=a) (y:=b) 9998 w fs.toList os z hos hz
    refine⟨hgt',?_⟩
    have h1:=run_equalIn_struct (P:=P) w 9999 T a b hu' hst'
    rw[hf]at h1
    exact h1.trans he
 .simp at hos
theorem ul{op:BinOp}{T:TypeId}{y v:Value}{c:Prop}(h:Xc P op T x y=some (c,v))(hc:c)(ox oy:Operand)(w:World):
  (do eqGuard op T ox oy x y;binOp op T x y:Sem Value).run P w= .ok v w:=by
 unfold Xc at h
 split at h
 .rename_i k a k' b
  split at h
  .rename_i hk
   subst hk
   have hg:∀(w:World),(eqGuard op T ox oy (.int k a) (.int k b)).run P w= .ok () w:=by
    intro w;cases op<;>simp[eqGuard]
   split at h
   .rename_i c' n har
    simp only[Option.some.injEq,Prod.mk.injEq]at h
    obtain⟨rfl,rfl⟩:=h
    simp only[Sem.run_bind,hg,Result.andThen_ok]
    unfold arI at har
    split at har<;>simp only[Option.some.injEq,Prod.mk.injEq,reduceCtorEq]at har
    all_goals (obtain⟨rfl,rfl⟩:=har;simp[binOp,Op.intArith,Op.intDiv,hc])
   .rename_i har
    simp only[Option.map_eq_some_iff,Prod.mk.injEq]at h
    obtain⟨z,hz,rfl,rfl⟩:=h
    simp only[Sem.run_bind,hg,Result.andThen_ok]
    unfold oA at hz
    split at hz<;>simp only[Option.some.injEq,reduceCtorEq]at hz
    all_goals (subst hz;simp[binOp,Op.intCmp])
  .simp at h
 .rename_i a b
  have hg:∀(w:World),(eqGuard op T ox oy (.string a) (.string b)).run P w= .ok () w:=by
   intro w;cases op<;>simp[eqGuard]
  simp only[Sem.run_bind,hg,Result.andThen_ok]
  unfold ff at h
  split at h<;>simp only[Option.some.injEq,Prod.mk.injEq,reduceCtorEq]at h
  all_goals obtain⟨rfl,rfl⟩:=h
  .rw[<- ju]
   simp only[binOp]
   rw[run_string_add_sum w a b (by rw[Hb,Hb];exact hc)]
  all_goals simp[binOp,Op.stringOp]
 .rename_i a b
  split at h<;>simp only[Option.some.injEq,Prod.mk.injEq,reduceCtorEq]at h
  .obtain⟨rfl,rfl⟩:=h
   exact oB hc a b ox oy w
  .obtain⟨rfl,rfl⟩:=h
   exact oC hc a b ox oy w
 .rename_i a b
  split at h
  .rename_i os hos
   split at h
   .rename_i z hz
    obtain⟨hgt',hq⟩:=A09 hos hz w
    split at h<;>simp only[Option.some.injEq,Prod.mk.injEq,reduceCtorEq]at h
    .obtain⟨rfl,rfl⟩:=h
     simp only[Sem.run_bind,run_eqGuard_agg w _ T ox oy _ _ hgt',Result.andThen_ok,run_eql_struct,hq]
    .obtain⟨rfl,rfl⟩:=h
     simp only[Sem.run_bind,run_eqGuard_agg w _ T ox oy _ _ hgt',Result.andThen_ok,run_neq_struct,hq]
   .simp at h
  .simp at h
 .simp at h
theorem YR{T e:TypeId}(hu:P.underlying T=some (.pointer e))(a:Option Addr)(ox oy:Operand)(w:World):
  (do eqGuard .eql T ox oy (.pointer a) (.pointer none);binOp .eql T (.pointer a) (.pointer none):Sem Value).run P w= .ok (.bool a.isNone) w/\
  (do eqGuard .neq T ox oy (.pointer a) (.pointer none);binOp .neq T (.pointer a) (.pointer none):Sem Value).run P w= .ok (.bool (!a.isNone)) w:=by
 have hp:P.underlying T=some (.pointer (P.pointee T)):=by simp[Program.pointee,hu]
 have e1:(eqGuard .eql T ox oy (.pointer a) (.pointer none)).run P w= .ok () w:=by simp[eqGuard]
 have e2:(eqGuard .neq T ox oy (.pointer a) (.pointer none)).run P w= .ok () w:=by simp[eqGuard]
 simp only[Sem.run_bind,e1,e2,Result.andThen_ok,run_eql_pointer_nil w T a hp,run_neq_pointer_nil w T a hp,and_self]
abbrev Env:=Nat->Option (Bool×SV)
def oD:D->C
 | .v x=>.v x
 |x=>.d x
def rdv(E:Env):Operand->Option SV
 | .tmp t=>(E t).map (·.2)
 | .const x=>some (ofV x)
 | .func f=>some (.one (.v (.func (.func f) #[] #[])))
 | .global _=>none
def okV:Value->Bool
 | .agg cs=>cs.toList.all Gk
 | .tuple _=>false
 |_=>true
def rdg(E:Env):Operand->Bool
 | .tmp t=>((E t).map (·.1)).getD false
 | .const x=>okV x
 | .func _=>true
 | .global _=>false
def SV.tupB:SV->Bool
 | .tup _=>true
 |_=>false
def reads(E:Env):List (Nat×Operand)->Option (List (Nat×SV))
 |[]=>some []
 |(i,x)::r=>match rdv E x,reads E r with
  |some v,some l=>some ((i,v)::l)
  |_,_=>none
def KF(E:Env):List (Nat×Operand)->Prop
 |[]=>True
 |(_,x)::r=>rdg E x=true/\KF E r
def GC(E:Env):List Operand->Option (List SV)
 |[]=>some []
 |x::r=>match rdv E x,GC E r with
  |some v,some l=>some (v::l)
  |_,_=>none
def FJ(E:Env):List Operand->Prop
 |[]=>True
 |x::r=>rdg E x=true/\FJ E r
def IM(E:Env):Option Operand->Option (Option SV)
 |none=>some none
 |some x=>(rdv E x).map some
def HJ(E:Env):Option Operand->Prop
 |none=>True
 |some x=>rdg E x=true
def setAll{α:Type}(l:List α)(o:Nat):List α->List α
 |[]=>l
 |c::r=>setAll (l.set o c) (o+1) r
theorem Rv(l:List α)(o:Nat)(r:List α):(setAll l o r).length=l.length:=by
 induction r generalizing l o with
 |nil=>rfl
 |cons c r ih=>simp[setAll,ih]
def OH(P:Program):List Field->Option (List (Nat×Nat))
 |[]=>some []
 |f::r=>match Am P f.type,OH P r with
  |some n,some l=>some ((f.offset,n)::l)
  |_,_=>none
def Df(P:Program)(t:TypeId):Option (List (Nat×Nat)):=
 match P.underlying t with
 |some (.struct fs)=>OH P fs.toList
 |_=>none
def aK(P:Program)(t:TypeId):Option (Nat×TypeId):=
 match P.underlying t with
 |some (.array n e)=>some (n,e)
 |_=>none
def Mj(P:Program)(t:TypeId):Bool:=
 match P.underlying t with
 |some .string=>true
 |_=>false
def tPtr(P:Program)(t:TypeId):Option TypeId:=
 match P.underlying t with
 |some (.pointer e)=>some e
 |_=>none
def RG(P:Program)(t:TypeId):Option (TypeId×TypeId):=
 match P.underlying t with
 |some (.map k e)=>some (k,e)
 |_=>none
def GL(P:Program)(t:TypeId):Option Nat:=(P.info? t).map (·.bytes)
def HK(place:Nat->Option (Nat×Nat))(cells:List C):List (Nat×SV)->Option (List C)
 |[]=>some cells
 |(i,v)::rest=>
  match place i with
  |none=>none
  |some (off,size)=>if v.tupB=false/\v.cells.length=size/\off+size<=cells.length then HK place (setAll cells off v.cells) rest else none
def KV(s:Nat):Nat->List C->List (List C)
 |0,_=>[]
 |n+1,l=>l.take s::KV s n (l.drop s)
def Ua:Nat->List C
 |0=>[]
 |n+1=>.v (.bool false)::Ua n
def Bj(es:List (List C)):Prop:=∀r∈es,∀c∈r,C.stor c=true
structure Eff where
 val:SV
 upd:List (Nat×Ch)
abbrev Res:=Option (Prop×Eff×List Nat)
def rV(c:Prop)(v:SV)(fp:List Nat):Res:=some (c,⟨v,[]⟩,fp)
def clC:C->Option Value
 | .v x=>some x
 |_=>none
def clL:List C->Option (List Value)
 |[]=>some []
 |c::r=>match clC c,clL r with
  |some v,some l=>some (v::l)
  |_,_=>none
def OI:SV->Option Value
 | .one c=>clC c
 | .agg l=>(clL l).map λvs=>.agg vs.toArray
 | .tup _=>none
def LJ(E:Env)(x:Operand):Res:=(rdv E x).bind λv=>rV (rdg E x=true) v []
def QJ(E:Env)(c a b:Operand):Res:=
 match rdv E c,rdv E a,rdv E b with
 |some (.one (.v (.bool z))),some (.one (.v (.bool x))),some (.one (.v (.bool y)))=>
  rV (rdg E c=true/\(z=true->rdg E a=true)/\(z=false->rdg E b=true)) (.one (.v (.bool (SL z x y)))) []
 |_,_,_=>none
def tgN(T:TypeId):Nat->List C
 |0=>[]
 |n+1=>.d (.v (.pointer (some ⟨T,0,none⟩)))::Ua n
def QK(P:Program)(T:TypeId)(t:Nat):Res:=
 (Cs P T).bind λz=>some (okV z=true,⟨.one (.p t 0 0),[(t,.vec 0 (tgN T (ofV z).cells.length) [(ofV z).cells])]⟩,[t])
def Tc(E:Env)(x:Operand)(t:Nat):Res:=
 (rdv E x).bind λv=>some (rdg E x=true/\v.tupB=false/\v.cells.all C.stor=true,⟨.one (.p t 0 0),[(t,.vec 0 (Ua v.cells.length) [v.cells])]⟩,[t])
def NX(P:Program)(E:Env)(T:TypeId)(ps:List (Nat×Operand)):Res:=
 match Df P T,Cs P T,reads E ps with
 |some pl,some z,some vs=>(HK (pl[·]?) (ofV z).cells vs).bind λcs=>rV (KF E ps/\okV z=true) (.agg cs) []
 |_,_,_=>match aK P T,Cs P T,reads E ps with
  |some (_,e),some z,some vs=>match Am P e with
   |some s=>(HK (λi=>some (i*s,s)) (ofV z).cells vs).bind λcs=>rV (KF E ps/\okV z=true) (.agg cs) []
   |none=>none
  |_,_,_=>none
def Ml{α:Type}:Nat->List α->List α
 |0,_=>[]
 |n+1,l=>l++Ml n l
def Hx(P:Program)(E:Env)(T:TypeId)(n:Nat)(ps:List (Nat×Operand))(t:Nat):Res:=
 match DD P T,reads E ps with
 |some e,some vs=>
  match Am P e,Cs P e with
  |some s,some z=>
   (HK (λi=>some (i*s,s)) (Ml n (ofV z).cells) vs).bind λcs=>
    some (KF E ps/\okV z=true/\n*s<=16777216/\0<s/\(ofV z).cells.length=s/\cs.all C.stor=true,⟨.one (.s t),[(t,.vec 0 (ofV z).cells (KV s n cs))]⟩,[t])
  |_,_=>none
 |_,_=>none
def Ik(P:Program)(E:Env)(T:TypeId)(a b:Operand)(t:Nat):Res:=
 match DD P T,rdv E a,rdv E b with
 |some e,some (.one (.v (.int .i64 n))),some (.one (.v (.int .i64 m)))=>
  match Am P e,Cs P e,GL P e with
  |some s,some z,some y=>some (rdg E a=true/\rdg E b=true/\m=n/\0<=n/\n*y<=281474976710656/\n<=9223372036854775807/\okV z=true/\0<s/\(ofV z).cells.length=s,⟨.one (.s t),[(t,.vec 0 (ofV z).cells (List.replicate n.toNat (ofV z).cells))]⟩,[t])
  |_,_,_=>none
 |_,_,_=>none
def ldc(k u:Nat)(p:List (Nat×Nat))(i:Nat):Nat->List C->List C
 |_,[]=>[]
 |j,.ov _ _::r=>.vw k u (p++[(i,j)])::ldc k u p i (j+1) r
 |j,c::r=>c::ldc k u p i (j+1) r
def ldV(g:Option Bool)(n:Nat)(l:List C):Option SV:=
 match g with
 |some true=>if n<=l.length then some (.agg (l.take n)) else none
 |some false=>match l with
  |c::_=>some (.one c)
  |[]=>none
 |none=>none
def LK(P:Program)(E:Env)(H:Hp)(T:TypeId)(x:Operand):Res:=
 match rdv E x,Am P T with
 |some (.one (.p k i j)),some n=>
  match H k with
  |some (.vec u z es)=>(ldV (Ck P T) n (ldc k u [] i j ((es.getD i z).drop j))).bind λv=>rV (rdg E x=true/\i<es.length) v [k]
  |_=>none
 |some (.one (.dp cs)),some n=>(ldV (Ck P T) n (cs.map oD)).bind λv=>rV (rdg E x=true) v []
 |some (.one (.d (.pt (some cs)))),some n=>(ldV (Ck P T) n (cs.map oD)).bind λv=>rV (rdg E x=true) v []
 |some (.one (.q k u p s m o)),some n=>
  match H k with
  |some (.vec u' z es)=>
   match Ek p z es with
   |some (.ov z' es')=>(ldV (Ck P T) n (ldc k u p m o ((es'.getD m z').drop o))).bind λv=>rV (rdg E x=true/\u'=u/\s=z'.length/\inP p z es/\m<es'.length) v [k]
   |_=>none
  |_=>none
 |_,_=>none
def Jn(P:Program)(E:Env)(H:Hp)(T:TypeId)(x y:Operand):Res:=
 match rdv E x,rdv E y,Am P T with
 |some (.one (.p k i j)),some v,some n=>
  match H k with
  |some (.vec u z es)=>some (rdg E x=true/\rdg E y=true/\v.tupB=false/\v.cells.length=n/\0<n/\i<es.length/\j+n<=z.length/\v.cells.all C.stor=true,
    ⟨.one (.v (.bool true)),[(k,.vec (u+1) z (es.set i (setAll (es.getD i z) j v.cells)))]⟩,[k])
  |_=>none
 |some (.one (.q k u p s m o)),some v,some n=>
  match H k with
  |some (.vec u' z es)=>
   match Ek p z es with
   |some (.ov z' es')=>some (rdg E x=true/\rdg E y=true/\u'=u/\s=z'.length/\v.tupB=false/\v.cells.length=n/\0<n/\inP p z es/\m<es'.length/\o+n<=z'.length/\v.cells.all C.stor=true/\v.cells.flatMap C.names=[],
     ⟨.one (.v (.bool true)),[(k,.vec (u+1) z (Ha p z es (.ov z' (es'.set m (setAll (es'.getD m z') o v.cells)))))]⟩,[k])
   |_=>none
  |_=>none
 |_,_,_=>none
def RH(H:Hp):C->Option (Prop×List Nat)
 | .p k i _=>match H k with
  |some (.vec _ _ es)=>some (i<es.length,[k])
  |_=>none
 | .q k u p _ m _=>match H k with
  |some (.vec u' z es)=>match Ek p z es with
   |some (.ov _ es')=>some (u'=u/\inP p z es/\m<es'.length,[k])
   |_=>none
  |_=>none
 | .dp _=>some (True,[])
 | .d (.pt (some _))=>some (True,[])
 |_=>none
def ptrA(n:Nat):C->C
 | .p k i j=>.p k i (j+n)
 | .q k u p s m o=>.q k u p s m (o+n)
 | .dp cs=>.dp (cs.drop n)
 | .d (.pt (some cs))=>.dp (cs.drop n)
 |c=>c
def Fi(P:Program)(E:Env)(H:Hp)(T:TypeId)(x:Operand)(f:Nat):Res:=
 match rdv E x,A8 P T f with
 |some (.one c),some (o,ft)=>match Am P ft,RH H c with
  |some n,some (g,fp)=>rV (rdg E x=true/\n≠0/\g) (.one (ptrA o c)) fp
  |_,_=>none
 |_,_=>none
def NY(P:Program)(E:Env)(T:TypeId)(x:Operand)(f:Nat):Res:=
 match rdv E x,A8 P T f with
 |some (.agg l),some (o,ft)=>
  match Am P ft with
  |some n=>(ldV (Ck P ft) n (l.drop o)).bind λv=>rV (rdg E x=true) v []
  |none=>none
 |_,_=>none
def Fj(P:Program)(E:Env)(H:Hp)(T:TypeId)(x i:Operand):Res:=
 match rdv E x,rdv E i with
 |some (.one (.s k)),some (.one (.v (.int _ n)))=>
  match H k,DD P T with
  |some (.vec _ z es),some e=>(Am P e).bind λs=>rV (rdg E x=true/\rdg E i=true/\0<=n/\n<es.length/\s=z.length) (.one (.p k n.toNat 0)) [k]
  |_,_=>none
 |some (.one (.d (.sl z es))),some (.one (.v (.int _ n)))=>
  (DD P T).bind λe=>(Am P e).bind λs=>rV (rdg E x=true/\rdg E i=true/\0<=n/\n<es.length/\s=z.length) (.one (.dp (es.getD n.toNat z))) []
 |some (.one (.df z es)),some (.one (.v (.int _ n)))=>
  (DD P T).bind λe=>(Am P e).bind λs=>rV (rdg E x=true/\rdg E i=true/\0<=n/\n<es.length/\s=z.length) (.one (.dp (es.getD n.toNat z))) []
 |some (.one (.vw k u p)),some (.one (.v (.int _ n)))=>
  match H k,DD P T with
  |some (.vec u' z es),some e=>
   match Ek p z es with
   |some (.ov z' es')=>(Am P e).bind λs=>rV (rdg E x=true/\rdg E i=true/\u'=u/\inP p z es/\0<=n/\n<es'.length/\s=z'.length) (.one (.q k u p s n.toNat 0)) [k]
   |_=>none
  |_,_=>none
 |some (.one c),some (.one (.v (.int _ n)))=>
  match aK P T with
  |some ae=>match Am P ae.2,RH H c with
   |some s,some (g,fp)=>rV (rdg E x=true/\rdg E i=true/\0<=n/\n<ae.1/\g) (.one (ptrA (n.toNat*s) c)) fp
   |_,_=>none
  |none=>none
 |_,_=>none
def NZ(P:Program)(E:Env)(T:TypeId)(x i:Operand):Res:=
 match rdv E x,rdv E i with
 |some (.one (.v (.string s))),some (.one (.v (.int _ n)))=>
  if Mj P T=true then rV (rdg E x=true/\rdg E i=true/\0<=n/\n<s.toList.length) (.one (.v (.int .u8 (s.toList.getD n.toNat 0).toNat))) [] else none
 |some (.agg l),some (.one (.v (.int _ n)))=>
  (aK P T).bind λae=>(Am P ae.2).bind λs=>(ldV (Ck P ae.2) s (l.drop (n.toNat*s))).bind λv=>rV (rdg E x=true/\rdg E i=true/\0<=n/\n<ae.1) v []
 |_,_=>none
def boI(v:Option SV)(d:Int):Option Int:=
 match v with
 |none=>some d
 |some (.one (.v (.int _ n)))=>some n
 |_=>none
def Jo(P:Program)(E:Env)(H:Hp)(T:TypeId)(x:Operand)(lo hi mx:Option Operand)(t:Nat):Res:=
 match rdv E x,IM E lo,IM E hi,IM E mx with
 |some (.one (.v (.string s))),some a,some b,some none=>
  match boI a 0,boI b s.toList.length with
  |some i,some j=>if Mj P T=true then rV (rdg E x=true/\HJ E lo/\HJ E hi/\0<=i/\i<=j/\j<=s.toList.length) (.one (.v (.string (bs ((s.toList.drop i.toNat).take (j.toNat-i.toNat)))))) [] else none
  |_,_=>none
 |some (.one (.d (.sl z es))),some a,some b,some m=>
  match boI a 0,boI b es.length,DD P T with
  |some i,some j,some e=>
   match m with
   |none=>rV (rdg E x=true/\HJ E lo/\HJ E hi/\0<=i/\i<=j/\j<=es.length/\Am P e=some z.length) (.one (.d (.sl z ((es.drop i.toNat).take (j.toNat-i.toNat))))) []
   |some m=>match b,boI (some m) 0 with
    |some _,some q=>rV (rdg E x=true/\HJ E lo/\HJ E hi/\HJ E mx/\0<=i/\i<=j/\j<=es.length/\q=j/\Am P e=some z.length) (.one (.df z ((es.drop i.toNat).take (j.toNat-i.toNat)))) []
    |_,_=>none
  |_,_,_=>none
 |some (.one (.s k)),some a,some b,some none=>
  match H k,DD P T with
  |some (.vec _ z es),some e=>
   match boI a 0,boI b es.length with
   |some i,some j=>some (rdg E x=true/\HJ E lo/\HJ E hi/\0<=i/\i<=j/\j<=es.length/\Am P e=some z.length/\zT z=none/\Bj es,⟨.one (.s t),[(t,.vec 0 z ((es.drop i.toNat).take (j.toNat-i.toNat))),(k,.dead)]⟩,[t,k])
   |_,_=>none
  |_,_=>none
 |_,_,_,_=>none
def Ko(E:Env)(x:Operand)(i:Nat):Res:=
 match rdv E x with
 |some (.tup l)=>match l[i]? with
  |some (.inl c)=>rV (rdg E x=true) (.one c) []
  |some (.inr cs)=>rV (rdg E x=true) (.agg cs) []
  |none=>none
 |_=>none
def Kp(P:Program)(E:Env)(s d:TypeId)(x:Operand):Res:=
 match rdv E x,PF P s,PF P d with
 |some (.one (.v (.int _ n))),some _,some k=>rV (rdg E x=true) (.one (.v (.int k (k.wrap n)))) []
 |_,_,_=>none
def LL:C->Option Bool
 | .v (.pointer none)=>some true
 | .v (.pointer (some _))=>some false
 | .d (.pt none)=>some true
 | .d (.pt (some _))=>some false
 | .dp _=>some false
 |_=>none
def SM(P:Program)(op:BinOp)(T:TypeId):SV->SV->Option Bool
 | .one c,.one (.v (.pointer none))=>
  match op,tPtr P T with
  | .eql,some _=>LL c
  | .neq,some _=>(LL c).map (!·)
  |_,_=>none
 |_,_=>none
def Td(P:Program)(E:Env)(op:BinOp)(T:TypeId)(x y:Operand):Res:=
 match rdv E x,rdv E y with
 |some a,some b=>
  match OI a,OI b with
  |some u,some v=>match Xc P op T u v with
   |some r=>rV (rdg E x=true/\rdg E y=true/\r.1) (ofV r.2) []
   |none=>match SM P op T a b with
    |some z=>rV (rdg E x=true/\rdg E y=true) (.one (.v (.bool z))) []
    |none=>none
  |_,_=>match SM P op T a b with
   |some z=>rV (rdg E x=true/\rdg E y=true) (.one (.v (.bool z))) []
   |none=>none
 |_,_=>none
def unV:UnOp->SV->Option SV
 | .not,.one (.v (.bool b))=>some (.one (.v (.bool (!b))))
 | .neg,.one (.v (.int k n))=>some (.one (.v (.int k (k.wrap (0-n)))))
 |_,_=>none
def Xd(E:Env)(op:UnOp)(x:Operand):Res:=
 match rdv E x with
 |some a=>(unV op a).bind λr=>rV (rdg E x=true) r []
 |_=>none
def fg:C->Bool
 | .p _ _ _=>false
 | .d (.pt (some _))=>true
 | .dp _=>true
 | .v (.func (.func _) _ _)=>true
 | .fn _ _=>true
 |_=>false
def Mx(E:Env)(H:Hp)(x:Operand):Res:=
 match rdv E x with
 |some (.one (.p k i j))=>match H k with
  |some (.vec _ _ es)=>rV (rdg E x=true/\i<es.length) (.one (.p k i j)) [k]
  |_=>none
 |some (.one (.q k u p s m o))=>match RH H (.q k u p s m o) with
  |some (g,fp)=>rV (rdg E x=true/\g) (.one (.q k u p s m o)) fp
  |none=>none
 |some (.one c)=>if fg c=true then rV (rdg E x=true) (.one c) [] else none
 |_=>none
def Ub(H:Hp):C->Option (Prop×Int×List Nat)
 | .d (.sl _ es)=>some (True,es.length,[])
 | .df _ es=>some (True,es.length,[])
 | .v (.slice none 0 0)=>some (True,0,[])
 | .s k=>match H k with
  |some (.vec _ _ es)=>some (True,es.length,[k])
  |_=>none
 | .vw k u p=>match H k with
  |some (.vec u' z es)=>match Ek p z es with
   |some (.ov _ es')=>some (u'=u/\inP p z es,es'.length,[k])
   |_=>none
  |_=>none
 |_=>none
def JV(H:Hp)(z:List C):C->Option (List (List C)×List Nat)
 | .d (.sl _ es)=>some (es.map (λr=>r.map oD),[])
 | .df _ es=>some (es.map (λr=>r.map oD),[])
 | .v (.slice none 0 0)=>some ([],[])
 | .s k=>match H k with
  |some (.vec _ _ es)=>some (es,[k])
  |_=>none
 |_=>none
def K3(H:Hp):C->Option Nat
 | .d (.sl z _)=>some z.length
 | .df z _=>some z.length
 | .s k=>match H k with
  |some (.vec _ z _)=>some z.length
  |_=>none
 |_=>none
def Te:List (List C)->Option (List Int)
 |[]=>some []
 |[.v (.int .u8 n)]::r=>(Te r).map (n::·)
 |_::_=>none
def byN(n:Int):UInt8:=UInt8.ofNat n.toNat
def Jp(P:Program)(E:Env)(H:Hp)(s d:TypeId)(x:Operand):Res:=
 match rdv E x,DD P s,Mj P d with
 |some (.one c),some e,true=>
  match PF P e,JV H [] c with
  |some .u8,some (rows,f)=>(Te rows).bind λns=>rV (rdg E x=true/\(∀q,K3 H c=some q->q=1)) (.one (.v (.string (bs (ns.map byN))))) f
  |_,_=>none
 |_,_,_=>none
def Ln(H:Hp)(z:List C):C->Option (List (List C)×List Nat)
 | .v (.string s)=>some (s.toList.map λb=>[.v (.int .u8 b.toNat)],[])
 |c=>JV H z c
def KW(H:Hp):C->Option Nat
 | .v (.string _)=>some 1
 |c=>K3 H c
def OJ(P:Program)(U:TypeId):Option SV->Option Unit
 |some (.one (.v (.string _)))=>if Mj P U=true then some () else none
 |_=>(DD P U).map λ_=>()
def IP(P:Program)(E:Env)(H:Hp)(x y:Operand)(T U:TypeId)(t:Nat):Res:=
 match rdv E x,rdv E y,DD P T,OJ P U (rdv E y) with
 |some (.one a),some (.one b),some e,some _=>
  match Am P e,Cs P e,GL P e with
  |some s,some z,some w=>
   match Ln H (ofV z).cells b with
   |some (rows,f2)=>
    match a with
    | .v (.slice none 0 0)=>some (rdg E x=true/\rdg E y=true/\0<s/\(ofV z).cells.length=s/\(∀q,KW H b=some q->q=s)/\Bj rows/\rows.length*w<=140737488355328/\rows.length<=9223372036854775807,
      ⟨.one (.s t),[(t,.vec 0 (ofV z).cells rows)]⟩,t::f2)
    | .df z' es'=>some (rdg E x=true/\rdg E y=true/\0<s/\z'.length=s/\(ofV z).cells.length=s/\0<rows.length/\(∀q,KW H b=some q->q=s)/\Bj rows/\(es'.length+rows.length)*w<=140737488355328/\es'.length+rows.length<=9223372036854775807,
      ⟨.one (.s t),[(t,.vec 0 (ofV z).cells (es'.map (λr=>r.map oD)++rows))]⟩,t::f2)
    | .s k=>match H k with
     |some (.vec _ z' es)=>some (rdg E x=true/\rdg E y=true/\0<s/\(z'.length=s/\(zT z'=none∨zT z'=some e))/\(ofV z).cells.length=s/\(∀q,KW H b=some q->q=s)/\Bj rows/\b.names≠[k]/\(es.length+rows.length)*w<=140737488355328/\es.length+rows.length<=9223372036854775807,
       ⟨.one (.s t),[(t,.vec 0 z' (es++rows)),(k,.dead)]⟩,t::k::f2)
     |_=>none
    | .vw k u p=>match H k with
     |some (.vec u' zz es)=>match Ek p zz es with
      |some (.ov z' es')=>some (rdg E x=true/\rdg E y=true/\u'=u/\inP p zz es/\0<s/\(z'.length=s/\(zT z'=none∨zT z'=some e))/\(ofV z).cells.length=s/\(∀q,KW H b=some q->q=s)/\Bj rows/\b.names≠[k]/\(es'.length+rows.length)*w<=140737488355328/\es'.length+rows.length<=9223372036854775807,
        ⟨.one (.s t),[(t,.vec 0 z' (es'++rows)),(k,.vec (u'+1) zz (Ha p zz es .any))]⟩,t::k::f2)
      |_=>none
     |_=>none
    |_=>none
   |none=>none
  |_,_,_=>none
 |_,_,_,_=>none
def LM(P:Program)(E:Env)(H:Hp)(x y:Operand)(T U:TypeId):Res:=
 match rdv E x,rdv E y,DD P T,DD P U with
 |some (.one (.s k)),some (.one b),some e,some _=>
  match H k,Am P e with
  |some (.vec u z es),some s=>
   match JV H [] b with
   |some (rows,f)=>some (rdg E x=true/\rdg E y=true/\0<s/\z.length=s/\0<es.length/\(∀q,K3 H b=some q->q=s)/\Bj rows,
     ⟨.one (.v (.int .i64 (min rows.length es.length:Nat))),[(k,.vec (u+1) z (rows.take es.length++es.drop rows.length))]⟩,k::f)
   |none=>none
  |_,_=>none
 |_,_,_,_=>none
theorem A4a(H:Hp)(z:List C)(a:Option Addr)(m n:Nat):Ln H z (.v (.slice a m n))=JV H z (.v (.slice a m n)):=rfl
theorem A4b(H:Hp)(a:Option Addr)(m n:Nat):KW H (.v (.slice a m n))=K3 H (.v (.slice a m n)):=rfl
theorem A4c(P:Program)(U:TypeId)(a:Option Addr)(m n:Nat):OJ P U (some (.one (.v (.slice a m n))))=(DD P U).map λ_=>():=rfl
theorem A7f(H:Hp)(z:List C)(x:D):Ln H z (.d x)=JV H z (.d x):=rfl
theorem A7g(H:Hp)(x:D):KW H (.d x)=K3 H (.d x):=rfl
theorem A7h(P:Program)(U:TypeId)(x:D):OJ P U (some (.one (.d x)))=(DD P U).map λ_=>():=rfl
theorem A4d(H:Hp)(z:List C)(z2:List D)(es:List (List D)):Ln H z (.df z2 es)=JV H z (.df z2 es):=rfl
theorem A4e(H:Hp)(z2:List D)(es:List (List D)):KW H (.df z2 es)=K3 H (.df z2 es):=rfl
theorem A4f(P:Program)(U:TypeId)(z2:List D)(es:List (List D)):OJ P U (some (.one (.df z2 es)))=(DD P U).map λ_=>():=rfl
theorem A7i(H:Hp)(z:List C)(k:Nat):Ln H z (.s k)=JV H z (.s k):=rfl
theorem A7j(H:Hp)(k:Nat):KW H (.s k)=K3 H (.s k):=rfl
theorem A7k(P:Program)(U:TypeId)(k:Nat):OJ P U (some (.one (.s k)))=(DD P U).map λ_=>():=rfl
theorem A4g(H:Hp)(z:List C)(s:ByteArray):Ln H z (.v (.string s))=some (s.toList.map λb=>[.v (.int .u8 b.toNat)],[]):=rfl
theorem A4h(H:Hp)(s:ByteArray):KW H (.v (.string s))=some 1:=rfl
theorem A4i(P:Program)(U:TypeId)(s:ByteArray):OJ P U (some (.one (.v (.string s))))=if Mj P U=true then some () else none:=rfl
theorem A0A:zT []=none:=rfl
theorem A0B(l:List C):zT (.any::l)=none:=rfl
theorem A7l(x:Value)(l:List C):zT (.v x::l)=none:=rfl
theorem A7m(k i j:Nat)(l:List C):zT (.p k i j::l)=none:=rfl
theorem A7n(k:Nat)(l:List C):zT (.s k::l)=none:=rfl
theorem A0C(z:List D)(es:List (List D))(l:List C):zT (.d (.sl z es)::l)=none:=rfl
theorem A0D(o:Option (List D))(l:List C):zT (.d (.pt o)::l)=none:=rfl
theorem A4j(z:List D)(es:List (List D))(l:List C):zT (.df z es::l)=none:=rfl
theorem A4k(cs:List D)(l:List C):zT (.dp cs::l)=none:=rfl
theorem A4l(z:List C)(es:List (List C))(l:List C):zT (.ov z es::l)=none:=rfl
theorem A4m(f:FuncId)(cs:List C)(l:List C):zT (.fn f cs::l)=none:=rfl
theorem A4n(a:Addr)(l:List C):zT (.d (.v (.pointer (some a)))::l)=some a.block:=rfl
def mn(a b:Int):Int:=if b<a then b else a
def mx(a b:Int):Int:=if a<b then b else a
def HL(P:Program)(E:Env)(H:Hp)(b:Builtin)(args:List Operand)(ts:List TypeId):Res:=
 match b,GC E args with
 | .min,some [.one (.v (.int k x)),.one (.v (.int _ y))]=>rV (FJ E args) (.one (.v (.int k (mn x y)))) []
 | .max,some [.one (.v (.int k x)),.one (.v (.int _ y))]=>rV (FJ E args) (.one (.v (.int k (mx x y)))) []
 | .min,some [.one (.v (.int k x)),.one (.v (.int _ y)),.one (.v (.int _ z)),.one (.v (.int _ u))]=>rV (FJ E args) (.one (.v (.int k (mn (mn (mn x y) z) u)))) []
 | .max,some [.one (.v (.int k x)),.one (.v (.int _ y)),.one (.v (.int _ z)),.one (.v (.int _ u))]=>rV (FJ E args) (.one (.v (.int k (mx (mx (mx x y) z) u)))) []
 | .len,some [.one (.v (.string s))]=>match ts with
  |[T]=>if Mj P T=true then rV (FJ E args) (.one (.v (.int .i64 s.toList.length))) [] else none
  |_=>none
 | .len,some [.one c]=>match ts with
  |[T]=>match DD P T,Ub H c with
   |some _,some (p,n,f)=>rV (FJ E args/\p) (.one (.v (.int .i64 n))) f
   |_,_=>none
  |_=>none
 |_,_=>none
def AD{α:Type}:List (List UInt8×α)->List UInt8->Option α
 |[],_=>none
 |(k',x)::r,k=>if (k'==k)=true then some x else AD r k
def B1{α:Type}:List (List UInt8×α)->List UInt8->α->List (List UInt8×α)
 |[],k,x=>[(k,x)]
 |(k',y)::r,k,x=>if (k'==k)=true then (k,x)::r else (k',y)::B1 r k x
theorem KX{α:Type}(f:α->β)(k:List UInt8):∀l:List (List UInt8×α),AD (l.map λp=>(p.1,f p.2)) k=(AD l k).map f
 |[]=>rfl
 |(k',x)::r=>by
  simp only[List.map_cons,AD]
  split
  .rfl
  exact KX f k r
theorem OK{α:Type}(f:α->β)(k:List UInt8)(x:α):∀l:List (List UInt8×α),B1 (l.map λp=>(p.1,f p.2)) k (f x)=(B1 l k x).map λp=>(p.1,f p.2)
 |[]=>rfl
 |(k',y)::r=>by
  simp only[List.map_cons,B1]
  split
  .rfl
  simp only[List.map_cons,OK f k x r]
def Z8:List C->C
 |c::_=>c
 |[]=>.any
def RI(H:Hp):C->Option (Option Bool×List (List UInt8×List C)×List Nat)
 | .s k=>match H k with
  |some (.mp ag es)=>some (some ag,es,[k])
  |_=>none
 | .d (.mp es)=>some (some false,es.map (λp=>(p.1,[.v p.2])),[])
 | .v (.map none)=>some (none,[],[])
 |_=>none
def oE:SV->Bool
 | .agg _=>true
 |_=>false
def MS(P:Program)(T:TypeId)(t:Nat):Res:=
 match RG P T with
 |some (kt,et)=>match Ck P et,Mj P kt with
  |some ag,true=>some (True,⟨.one (.s t),[(t,.mp ag [])]⟩,[t])
  |_,_=>none
 |none=>none
def lkV(ag ok:Bool)(r:List C)(has:Bool):SV:=
 match ag,ok with
 |true,true=>.tup [.inr r,.inl (.v (.bool has))]
 |false,true=>.tup [.inl (Z8 r),.inl (.v (.bool has))]
 |true,false=>.agg r
 |false,false=>.one (Z8 r)
def IQ(P:Program)(E:Env)(H:Hp)(T:TypeId)(x ix:Operand)(ok:Bool):Res:=
 match rdv E x,rdv E ix,RG P T with
 |some (.one c),some (.one (.v (.string key))),some (kt,et)=>
  match Mj P kt,Cs P et,Ck P et,RI H c with
  |true,some z,some ag,some (ag',es,fp)=>
   rV (rdg E x=true/\rdg E ix=true/\okV z=true/\oE (ofV z)=ag/\(ag'=none∨ag'=some ag)) (lkV ag ok ((AD es key.toList).getD (ofV z).cells) (AD es key.toList).isSome) fp
  |_,_,_,_=>none
 |_,_,_=>none
def EX(P:Program)(E:Env)(H:Hp)(T:TypeId)(x k v:Operand):Res:=
 match rdv E x,rdv E k,rdv E v,RG P T with
 |some (.one (.s n)),some (.one (.v (.string key))),some sv,some (kt,_)=>
  match H n,Mj P kt with
  |some (.mp ag es),true=>some (rdg E x=true/\rdg E k=true/\rdg E v=true/\sv.tupB=false/\oE sv=ag/\sv.cells.all C.stor=true,⟨.one (.v (.bool true)),[(n,.mp ag (B1 es key.toList sv.cells))]⟩,[n])
  |_,_=>none
 |_,_,_,_=>none
def Tf:C->Bool
 | .p _ _ _=>true
 | .s _=>true
 | .v _=>true
 |_=>false
def Ov:List SV->Option (List C)
 |[]=>some []
 | .one c::r=>(Ov r).map (c::·)
 |_::_=>none
def Jq(E:Env)(f:FuncId)(caps:List Operand):Res:=
 (GC E caps).bind λvs=>(Ov vs).bind λcs=>rV (FJ E caps/\cs.all Tf=true) (.one (.fn f cs)) []
end Go.Sy
