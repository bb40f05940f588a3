/- A symbolic executor for the walk, second make: data that nobody writes is held by value, memory that the call owns by name or by value. This text: the values, what they stand for, and how long they do. No conditions but those in each statement. -/
import Derived.WalkKit
import Derived.WalkLawsBesides
import Derived.Deep.AppendSrc
set_option linter.all false
namespace Go.Sy
open Go.RowKit
theorem oM{P:Prop}(h:P:=by cases c<;>first|rfl|(exact absurd rfl (h1 _ _ _))|(exact absurd rfl (h2 _ _ _ _ _ _))|(exact absurd r.1 (by simp[C.flat]))):P:=h
theorem AAJ{P:Prop}(h:P:=by
 have e3:(Op.equal T (.bool a) (.bool b)).run P w= .ok (a==b) w:=run_equalIn_bool' w 9999 T a b h
 simp only[Sem.run_bind,e1,Result.andThen_ok,e2,e3,Sem.run_pure]):P:=h
variable{x:Value}{P:Program}{π:List Nat}{α β:Type}{t:TypeId}
theorem jL3:(∀{α:Type}{a b:List α},(a++b).length=a.length+b.length)∧(∀{α:Type}{a:α}{b:List α},(a::b).length=b.length+1)∧(∀{α:Type},([]:List α).length=0):=⟨List.length_append,List.length_cons,List.length_nil⟩
theorem jS{a b:α}:(some a=some b)=(a=b):=Option.some.injEq a b
theorem jP{a c:α}{b d:β}:((a,b)=(c,d))=(a=c∧b=d):=Prod.mk.injEq a b c d
theorem jN{a b:Nat}(h:Nat.ble a b=true):a≤b:=Nat.le_of_ble_eq_true h
theorem jB:(false=true)=False:=Bool.false_eq_true
inductive D where
 |v (x:Value)
 |sl (z:List D) (es:List (List D))
 |pt (o:Option (List D))
 |mp (es:List (List UInt8×Value))
def bs(l:List UInt8):ByteArray:=⟨l.toArray⟩
inductive C where
 |any
 |v (x:Value)
 |p (k i j:Nat)
 |s (k:Nat)
 |d (x:D)
 |df (z:List D) (es:List (List D))
 |dp (cs:List D)
 |ov (z:List C) (es:List (List C))
 |fn (f:FuncId) (caps:List C)
 |vw (k u:Nat) (p:List (Nat×Nat))
 |q (k u:Nat) (p:List (Nat×Nat)) (s m o:Nat)
def H6:Value->Bool
 | .agg _=>false
 | .tuple _=>false
 |_=>true
structure NV where
 b:Option (Nat×Nat)
 len:Nat
 cap:Nat
 s:Nat
 mp:Bool
def slV(b:Option (Nat×Nat))(len cap:Nat):Value:=.slice (b.map λx=>⟨x.1,x.2,none⟩) len cap
def ptV(b:Option (Nat×Nat))(n:Nat):Value:=.pointer (b.map λx=>⟨x.1,x.2+n,none⟩)
def NV.v(n:NV):Value:=if n.mp then .map (n.b.map (·.1)) else slV n.b n.len n.cap
def NV.p(n:NV)(i j:Nat):Value:=ptV n.b (i*n.s+j)
abbrev Nm:=Nat->NV
theorem NV.v_one(n:NV):H6 n.v=true:=by unfold NV.v;split<;>rfl
theorem NV.p_one(n:NV)(i j:Nat):H6 (n.p i j)=true:=rfl
def capN:C->List Nat
 | .p k _ _=>[k]
 | .s k=>[k]
 |_=>[]
def Mt(I:Nm):C->Option Value
 | .p k i j=>some ((I k).p i j)
 | .s k=>some (I k).v
 | .v x=>some x
 |_=>none
def C.names:C->List Nat
 | .p k _ _=>[k]
 | .s k=>[k]
 | .fn _ cs=>cs.flatMap capN
 | .vw k _ _=>[k]
 | .q k _ _ _ _ _=>[k]
 |_=>[]
def C.flat:C->Bool
 | .ov _ _=>false
 |_=>true
def C.stor:C->Bool
 | .ov _ _=>false
 | .vw _ _ _=>false
 | .q _ _ _ _ _ _=>false
 |_=>true
abbrev Bf:=Nat->Option Obj
abbrev Lab:=Nat->Option (List Nat)
inductive Rd (h:Bf) (fz:Nat->Prop):D->Value->Prop where
 |v (x:Value) (h1:H6 x=true):Rd h fz (.v x) x
 |nil (z:List D) (a:Option Addr) (cap:Nat) (h0:a=none->cap=0):Rd h fz (.sl z []) (.slice a 0 cap)
 |sl (z:List D) (es:List (List D)) (b off cap:Nat) (arr:Array Value) (T:TypeId) (m:Nat×Nat) (val:Nat->Nat->Value) (hz:fz b) (hb:h b=some (.cells arr T m)) (hcap:es.length<=cap)
   (hl:∀(i:Nat) (cs:List D),es[i]?=some cs->cs.length=z.length)
   (hc:∀(i j:Nat) (cs:List D) (d:D),es[i]?=some cs->cs[j]?=some d->arr[off+i*z.length+j]?=some (val i j))
   (hr:∀(i j:Nat) (cs:List D) (d:D),es[i]?=some cs->cs[j]?=some d->Rd h fz d (val i j)):Rd h fz (.sl z es) (.slice (some ⟨b,off,none⟩) es.length cap)
 |pnil:Rd h fz (.pt none) (.pointer none)
 |pt (cs:List D) (b off:Nat) (arr:Array Value) (T:TypeId) (m:Nat×Nat) (val:Nat->Value) (hz:fz b) (hb:h b=some (.cells arr T m))
   (hc:∀(j:Nat) (d:D),cs[j]?=some d->arr[off+j]?=some (val j))
   (hr:∀(j:Nat) (d:D),cs[j]?=some d->Rd h fz d (val j)):Rd h fz (.pt (some cs)) (.pointer (some ⟨b,off,none⟩))
 |mp (es:List (List UInt8×Value)) (b:Nat) (entries:Array MapEntry) (clock:Nat) (hz:fz b) (hb:h b=some (.map entries clock)) (hl:entries.size=es.length)
   (hk:∀(i:Nat) (p:List UInt8×Value),es[i]?=some p->∃e,entries[i]?=some e/\e.key= .string (bs p.1)/\e.val=p.2/\H6 p.2=true):Rd h fz (.mp es) (.map (some b))
theorem Ff{h h':Bf}{fz fz':Nat->Prop}(hz:∀b,fz b->fz' b/\h' b=h b){d:D}(r:Rd h fz d x):Rd h' fz' d x:=by
 induction r with
 |v x h1=>exact .v x h1
 |nil s a cap h0=>exact .nil s a cap h0
 |sl s es b off cap arr T m val hb hh hcap hl hc _ ih=>exact .sl s es b off cap arr T m val (hz b hb).1 ((hz b hb).2.trans hh) hcap hl hc ih
 |pnil=>exact .pnil
 |pt cs b off arr T m val hb hh hc _ ih=>exact .pt cs b off arr T m val (hz b hb).1 ((hz b hb).2.trans hh) hc ih
 |mp es b entries clock hb hh hl hk=>exact .mp es b entries clock (hz b hb).1 ((hz b hb).2.trans hh) hl hk
def zT:List C->Option TypeId
 | .d (.v (.pointer (some a)))::_=>some a.block
 |_=>none
def zOK(z:List C)(T:TypeId)(off:Nat):Prop:=∀T0,zT z=some T0->T=T0/\off=0
theorem IY{z:List C}{T:TypeId}{off:Nat}(h:zT z=none):zOK z T off:=λ_ h0=>by rw[h]at h0;cases h0
theorem ak{z:List C}{T:TypeId}(h:zT z=none∨zT z=some T):zOK z T 0:=by
 intro T0 h0
 rcases h with h|h
 .simp_all
 simp_all
theorem Xm{z z':List C}{T:TypeId}{off:Nat}(h:zT z'=none∨zT z'=zT z)(hz:zOK z T off):zOK z' T off:=by
 intro T0 h0
 rcases h with h|h
 .simp_all
 rw[h]at h0;exact hz T0 h0
inductive Den (h:Bf) (fz:Nat->Prop) (lab:Lab) (I:Nm):List Nat->C->Value->Prop where
 |any (π:List Nat) (x:Value) (h1:H6 x=true):Den h fz lab I π .any x
 |v (π:List Nat) (x:Value) (h1:H6 x=true):Den h fz lab I π (.v x) x
 |p (π:List Nat) (k i j:Nat):Den h fz lab I π (.p k i j) ((I k).p i j)
 |s (π:List Nat) (k:Nat):Den h fz lab I π (.s k) (I k).v
 |d (π:List Nat) (x:D) (y:Value) (r:Rd h fz x y):Den h fz lab I π (.d x) y
 |df (π:List Nat) (z:List D) (es:List (List D)) (a:Option Addr) (r:Rd h fz (.sl z es) (.slice a es.length es.length)):Den h fz lab I π (.df z es) (.slice a es.length es.length)
 |dp (π:List Nat) (cs:List D) (y:Value) (r:Rd h fz (.pt (some cs)) y):Den h fz lab I π (.dp cs) y
 |nil (π:List Nat) (z:List C):Den h fz lab I π (.ov z []) (.slice none 0 0)
 |ov (π:List Nat) (z:List C) (es:List (List C)) (b off cap:Nat) (arr:Array Value) (T:TypeId) (val:Nat->Nat->Value) (hb:lab b=some π) (hh:h b=some (.cells arr T (0,0))) (hsz:off+cap*z.length<=arr.size/\zOK z T off) (hcap:es.length<=cap)
   (hl:∀(i:Nat) (cs:List C),es[i]?=some cs->cs.length=z.length)
   (hn:∀(i j:Nat) (cs:List C) (c:C),es[i]?=some cs->cs[j]?=some c->c.names=[])
   (hc:∀(i j:Nat) (cs:List C) (c:C),es[i]?=some cs->cs[j]?=some c->arr[off+i*z.length+j]?=some (val i j))
   (hd:∀(i j:Nat) (cs:List C) (c:C),es[i]?=some cs->cs[j]?=some c->Den h fz lab I (π++[i,j]) c (val i j)):Den h fz lab I π (.ov z es) (.slice (some ⟨b,off,none⟩) es.length cap)
 |fn (π:List Nat) (f:FuncId) (caps:List C) (vals:List Value) (hv:caps.map (Mt I)=vals.map some) (h1:∀x∈vals,H6 x=true):Den h fz lab I π (.fn f caps) (.func (.func f) #[] vals.toArray)
theorem au{h:Bf}{fz:Nat->Prop}{d:D}(r:Rd h fz d x):H6 x=true:=by
 cases r with
 |v x h1=>exact h1
 |_=>rfl
theorem Jt{h:Bf}{fz:Nat->Prop}{lab:Lab}{I:Nm}{c:C}(r:Den h fz lab I π c x):H6 x=true:=by
 cases r with
 |any _ _ h1=>exact h1
 |v _ _ h1=>exact h1
 |p _ k i j=>exact NV.p_one _ i j
 |s _ k=>exact NV.v_one _
 |d _ _ _ r=>exact au r
 |df=>rfl
 |dp _ _ _ r=>exact au r
 |nil=>rfl
 |ov=>rfl
 |fn=>rfl
theorem WB{I I':Nm}{caps:List C}(h:∀k∈caps.flatMap capN,I' k=I k):caps.map (Mt I')=caps.map (Mt I):=by
 apply List.map_congr_left
 intro c hc
 have:∀k∈capN c,I' k=I k:=λk hk=>h k (List.mem_flatMap.2 ⟨c,hc,hk⟩)
 cases c<;>simp only[Mt,capN,List.mem_cons,List.not_mem_nil,or_false,forall_eq] at*<;> rw[this]
theorem Kb{h h':Bf}{fz fz':Nat->Prop}{lab lab':Lab}{I I':Nm}(hz:∀b,fz b->fz' b/\h' b=h b){c:C}(r:Den h fz lab I π c x):
  ∀(π':List Nat),(∀b ρ,lab b=some (π++ρ)->lab' b=some (π'++ρ)/\h' b=h b)->(∀k∈c.names,I' k=I k)->Den h' fz' lab' I' π' c x:=by
 induction r with
 |any π x h1=>intro π' _ _;exact .any π' x h1
 |v π x h1=>intro π' _ _;exact .v π' x h1
 |p π k i j=>intro π' _ hI;rw[<- hI k (by simp[C.names])];exact .p π' k i j
 |s π k=>intro π' _ hI;rw[<- hI k (by simp[C.names])];exact .s π' k
 |d π x y r=>intro π' _ _;exact .d π' x y (Ff hz r)
 |df π s es a r=>intro π' _ _;exact .df π' s es a (Ff hz r)
 |dp π cs y r=>intro π' _ _;exact .dp π' cs y (Ff hz r)
 |nil π s=>intro π' _ _;exact .nil π' s
 |ov π s es b off cap arr T val hb hh hsz hcap hl hn hc _ ih=>
  intro π' hlab _
  have h0:=hlab b [] (by simpa using hb)
  refine .ov π' s es b off cap arr T val (by simpa using h0.1) (h0.2.trans hh) hsz hcap hl hn hc ?_
  intro i j cs c h1 h2
  refine ih i j cs c h1 h2 (π'++[i,j]) ?_ ?_
  .grind
  .grind
 |fn π f caps vals hv h1=>intro π' _ hI;exact .fn π' f caps vals (by rw[WB hI,hv]) h1
theorem DT{h h':Bf}{fz fz':Nat->Prop}{lab lab':Lab}{I I':Nm}(hz:∀b,fz b->fz' b/\h' b=h b){π':List Nat}{c:C}(hf:c.flat=true)(r:Den h fz lab I π c x)
  (hI:∀k∈c.names,I' k=I k):Den h' fz' lab' I' π' c x:=by
 cases r with
 |any _ _ h1=>exact .any π' x h1
 |v _ _ h1=>exact .v π' x h1
 |p _ k i j=>rw[<- hI k (by simp[C.names])];exact .p π' k i j
 |s _ k=>rw[<- hI k (by simp[C.names])];exact .s π' k
 |d _ x y r=>exact .d π' x _ (Ff hz r)
 |df _ s es a r=>exact .df π' s es a (Ff hz r)
 |dp _ cs y r=>exact .dp π' cs _ (Ff hz r)
 |nil=>cases hf
 |ov=>cases hf
 |fn _ f caps vals hv h1=>exact .fn π' f caps vals (by rw[WB hI,hv]) h1
def EY(h:Bf)(fz:Nat->Prop)(lab:Lab)(I:Nm)(π:List Nat)(z:List C)(es:List (List C))(x:Value):Prop:=
 (es=[]/\x=slV none 0 0)∨∃b off cap arr T,x=slV (some (b,off)) es.length cap/\lab b=some π/\h b=some (.cells arr T (0,0))/\(off+cap*z.length<=arr.size/\zOK z T off)/\es.length<=cap/\
  ∀(i:Nat) (cs:List C),es[i]?=some cs->cs.length=z.length/\∀(j:Nat) (c:C),cs[j]?=some c->∃y,arr[off+i*z.length+j]?=some y/\Den h fz lab I (π++[i,j]) c y
theorem Ik{h:Bf}{fz:Nat->Prop}{lab:Lab}{I:Nm}{z:List C}{es:List (List C)}(r:Den h fz lab I π (.ov z es) x):
  EY h fz lab I π z es x/\∀(i j:Nat) (cs:List C) (c:C),es[i]?=some cs->cs[j]?=some c->c.names=[]:=by
 cases r with
 |nil=>exact⟨.inl ⟨rfl,rfl⟩,by simp⟩
 |ov _ _ _ b off cap arr T val hb hh hsz hcap hl hn hc hd=>
  exact⟨.inr ⟨b,off,cap,arr,T,rfl,hb,hh,hsz,hcap,λi cs h1=>⟨hl i cs h1,λj c h2=>⟨_,hc i j cs c h1 h2,hd i j cs c h1 h2⟩⟩⟩,hn⟩
theorem WC{h:Bf}{fz:Nat->Prop}{lab:Lab}{I:Nm}{z:List C}{es:List (List C)}(r:EY h fz lab I π z es x)(hn:∀(i j:Nat) (cs:List C) (c:C),es[i]?=some cs->cs[j]?=some c->c.names=[]):
  Den h fz lab I π (.ov z es) x:=by
 classical
 rcases r with⟨rfl,rfl⟩|⟨b,off,cap,arr,T,rfl,hb,hh,hsz,hcap,hc⟩
 .exact .nil π z
 .have key:∀(i j:Nat) (cs:List C) (c:C),es[i]?=some cs->cs[j]?=some c->∃y,arr[off+i*z.length+j]?=some y/\Den h fz lab I (π++[i,j]) c y:=λi j cs c h1 h2=>(hc i cs h1).2 j c h2
  refine .ov π z es b off cap arr T (λi j=>(arr[off+i*z.length+j]?).getD (.bool false)) hb hh hsz hcap (λi cs h1=>(hc i cs h1).1) hn ?_ ?_
  .grind
  .grind
theorem IZ{h h':Bf}{fz fz':Nat->Prop}{lab lab':Lab}{I I':Nm}(hz:∀b,fz b->fz' b/\h' b=h b){π':List Nat}{z:List C}{es:List (List C)}(r:EY h fz lab I π z es x)
  (hl:∀b ρ,lab b=some (π++ρ)->lab' b=some (π'++ρ)/\h' b=h b) (hI:∀(i j:Nat) (cs:List C) (c:C),es[i]?=some cs->cs[j]?=some c->∀k∈c.names,I' k=I k):EY h' fz' lab' I' π' z es x:=by
 rcases r with⟨h1,h2⟩|⟨b,off,cap,arr,T,rfl,hb,hh,hsz,hcap,hc⟩
 .exact .inl ⟨h1,h2⟩
 .have h0:=hl b [] (by simpa using hb)
  refine .inr ⟨b,off,cap,arr,T,rfl,by simpa using h0.1,h0.2.trans hh,hsz,hcap,λi cs h1=>⟨(hc i cs h1).1,λj c h2=>?_⟩⟩
  obtain⟨y,hy,hd⟩:=(hc i cs h1).2 j c h2
  refine⟨y,hy,Kb hz hd _ ?_ (hI i j cs c h1 h2)⟩
  intro b' ρ hb'
  have:=hl b' ([i,j]++ρ) (by rw[<- List.append_assoc];exact hb')
  rwa [<- List.append_assoc]at this
inductive Ch where
 |dead
 |vec (u:Nat) (z:List C) (es:List (List C))
 |mp (ag:Bool) (es:List (List UInt8×List C))
 |fact (p:Prop)
abbrev Hp:=Nat->Option Ch
def Et:List (Nat×Nat)->List C->List (List C)->Option C
 |[],_,_=>none
 |[(i,j)],z,es=>(es.getD i z)[j]?
 |(i,j)::p::r,z,es=>match (es.getD i z)[j]? with
  |some (.ov z' es')=>Et (p::r) z' es'
  |_=>none
def inP:List (Nat×Nat)->List C->List (List C)->Prop
 |[],_,_=>False
 |[(i,_)],_,es=>i<es.length
 |(i,j)::p::r,z,es=>i<es.length/\match (es.getD i z)[j]? with
  |some (.ov z' es')=>inP (p::r) z' es'
  |_=>False
def He:List (Nat×Nat)->List C->List (List C)->C->List (List C)
 |[],_,es,_=>es
 |[(i,j)],z,es,c=>es.set i ((es.getD i z).set j c)
 |(i,j)::p::r,z,es,c=>match (es.getD i z)[j]? with
  |some (.ov z' es')=>es.set i ((es.getD i z).set j (.ov z' (He (p::r) z' es' c)))
  |_=>es
def flatP:List (Nat×Nat)->List Nat
 |[]=>[]
 |(i,j)::r=>i::j::flatP r
def I4:Value->Option (Nat×Nat)
 | .slice (some a) _ _=>some (a.block,a.off)
 |_=>none
def AtP(h:Bf):List (Nat×Nat)->Option (Nat×Nat)->List C->List (List C)->Value->Prop
 |[],_,_,_,_=>False
 |[(i,j)],a,z,_,x=>∃b off arr T m,a=some (b,off)/\h b=some (.cells arr T m)/\arr[off+i*z.length+j]?=some x
 |(i,j)::p::r,a,z,es,x=>∃b off arr T m y,a=some (b,off)/\h b=some (.cells arr T m)/\arr[off+i*z.length+j]?=some y/\match (es.getD i z)[j]? with
  |some (.ov z' es')=>AtP h (p::r) (I4 y) z' es' x
  |_=>False
def ovC:Option C->Bool
 |some (.ov _ _)=>true
 |_=>false
def ovP(p:List (Nat×Nat))(z:List C)(es:List (List C)):Bool:=ovC (Et p z es)
def Vw(h:Bf)(I:Nm)(H:Hp)(k u:Nat)(p:List (Nat×Nat))(x:Value):Prop:=
 H6 x=true/\∀u' z es,H k=some (.vec u' z es)->u<=u'/\(u=u'->inP p z es->ovP p z es=true->AtP h p (I k).b z es x)
def aw(x:Value)(n:Nat):Value:=
 match x with
 | .slice (some a) _ _=>.pointer (some ⟨a.block,a.off+n,none⟩)
 |_=>.pointer none
inductive SV where
 |one (c:C)
 |agg (l:List C)
 |tup (l:List (C ⊕ List C))
section
variable (h:Bf)(fz:Nat->Prop)(lab:Lab)(I:Nm)(H:Hp)
def SC:C->Value->Prop
 | .vw k u p,x=>Vw h I H k u p x
 | .q k u p s m o,x=>∃y,Vw h I H k u p y/\x=aw y (m*s+o)
 |c,x=>c.flat=true/\Den h fz lab I [] c x
def ER(l:List C)(arr:Array Value):Prop:=arr.size=l.length/\∀(j:Nat) (c:C),l[j]?=some c->∃y,arr[j]?=some y/\SC h fz lab I H c y
def gO:C ⊕ List C->Value->Prop
 | .inl c,x=>SC h fz lab I H c x
 | .inr l,x=>∃arr,x= .agg arr/\ER h fz lab I H l arr
def Ap:SV->Value->Prop
 | .one c,x=>SC h fz lab I H c x
 | .agg l,x=>∃arr,x= .agg arr/\ER h fz lab I H l arr
 | .tup l,x=>∃arr,x= .tuple arr/\arr.size=l.length/\∀(j:Nat) (p:C ⊕ List C),l[j]?=some p->∃y,arr[j]?=some y/\gO h fz lab I H p y
end
def pNames:C ⊕ List C->List Nat
 | .inl c=>c.names
 | .inr l=>l.flatMap C.names
def SV.names:SV->List Nat
 | .one c=>c.names
 | .agg l=>l.flatMap C.names
 | .tup l=>l.flatMap pNames
def SV.cells:SV->List C
 | .one c=>[c]
 | .agg l=>l
 | .tup _=>[]
theorem oe(x:Value)(n:Nat):H6 (aw x n)=true:=by unfold aw;split<;>rfl
section
variable {h h':Bf}{fz fz':Nat->Prop}{lab lab':Lab}{I I':Nm}{H H':Hp}
theorem Qc{c:C}(r:SC h fz lab I H c x):H6 x=true:=by
 unfold SC at r
 split at r
 .exact r.1
 .obtain⟨y,_,rfl⟩:=r;exact oe y _
 exact Jt r.2
theorem Ju{c:C}(hs:c.stor=true)(r:SC h fz lab I H c x):Den h fz lab I [] c x:=by
 unfold SC at r
 split at r
 .cases hs
 .cases hs
 exact r.2
theorem HN{c:C}(hs:c.stor=true)(r:Den h fz lab I [] c x):SC h fz lab I H c x:=by
 cases c<;>first|exact⟨rfl,r⟩|(simp[C.stor]at hs)
structure Pres(h h':Bf)(fz fz':Nat->Prop)(I I':Nm)(H H':Hp):Prop where
 z:∀b,fz b->fz' b/\h' b=h b
 n:∀k,(H k).isSome=true->I' k=I k
 w:∀k u p x,(H k).isSome=true->Vw h I H k u p x->Vw h' I' H' k u p x
theorem Pres.refl(h:Bf)(fz:Nat->Prop)(I:Nm)(H:Hp):Pres h h fz fz I I H H:=⟨λ_ hb=>⟨hb,rfl⟩,λ_ _=>rfl,λ_ _ _ _ _ hv=>hv⟩
variable (hp:Pres h h' fz fz' I I' H H')
include hp
theorem Xn{c:C}(r:SC h fz lab I H c x)(hI:∀k∈c.names,(H k).isSome=true):SC h' fz' lab' I' H' c x:=by
 unfold SC at r
 split at r
 .exact hp.w _ _ _ _ (hI _ (by simp[C.names])) r
 .obtain⟨y,h1,h2⟩:=r;exact⟨y,hp.w _ _ _ _ (hI _ (by simp[C.names])) h1,h2⟩
 rename_i h1 h2
 have hs:c.stor=true:=by
  exact oM
 exact HN hs (DT hp.z r.1 r.2 λk hk=>hp.n k (hI k hk))
theorem WD{l:List C}{arr:Array Value}(r:ER h fz lab I H l arr)(hI:∀k∈l.flatMap C.names,(H k).isSome=true):ER h' fz' lab' I' H' l arr:=by
 refine⟨r.1,λj c hc=>?_⟩
 obtain⟨y,h2,h3⟩:=r.2 j c hc
 exact⟨y,h2,Xn hp h3 λk hk=>hI k (List.mem_flatMap.2 ⟨c,List.mem_of_getElem? hc,hk⟩)⟩
theorem kh{p:C ⊕ List C}(r:gO h fz lab I H p x)(hI:∀k∈pNames p,(H k).isSome=true):gO h' fz' lab' I' H' p x:=by
 cases p with
 |inl c=>exact Xn hp r hI
 |inr l=>obtain⟨arr,h1,h2⟩:=r;exact⟨arr,h1,WD hp h2 hI⟩
theorem ki{v:SV}(r:Ap h fz lab I H v x)(hI:∀k∈v.names,(H k).isSome=true):Ap h' fz' lab' I' H' v x:=by
 cases v with
 |one c=>exact Xn hp r hI
 |agg l=>obtain⟨arr,h1,h2⟩:=r;exact⟨arr,h1,WD hp h2 hI⟩
 |tup l=>
 obtain⟨arr,h1,h2,h3⟩:=r
 refine⟨arr,h1,h2,λj p hp'=>?_⟩
 obtain⟨y,h4,h5⟩:=h3 j p hp'
 exact⟨y,h4,kh hp h5 λk hk=>hI k (List.mem_flatMap.2 ⟨p,List.mem_of_getElem? hp',hk⟩)⟩
end
def ofV:Value->SV
 | .agg cs=>.agg (cs.toList.map .v)
 | .tuple vs=>.tup (vs.toList.map fun| .agg cs=>.inr (cs.toList.map .v)|x=>.inl (.v x))
 |x=>.one (.v x)
open Go.RowKit
def Cw(P:Program)(t:TypeId):Option Bool:=
 match P.underlying t with
 |some (.struct _)=>some true
 |some (.array _ _)=>some true
 |some _=>some false
 |none=>none
def Aq(P:Program)(t:TypeId):Option Nat:=(P.info? t).map (·.size)
def AA(P:Program)(t:TypeId)(f:Nat):Option (Nat×TypeId):=
 match P.underlying t with
 |some (.struct fs)=>(fs[f]?).map λx=>(x.offset,x.type)
 |_=>none
def D6(P:Program)(t:TypeId):Option Value:=(P.info? t).bind (·.zero)
def PX(P:Program)(t:TypeId):Option IntKind:=
 match P.underlying t with
 |some (.int k)=>some k
 |_=>none
def DU(P:Program)(t:TypeId):Option TypeId:=
 match P.underlying t with
 |some (.slice e)=>some e
 |_=>none
inductive Kd where
 |b|i|s
def tKd(P:Program)(t:TypeId):Option Kd:=
 match P.underlying t with
 |some .bool=>some .b
 |some (.int _)=>some .i
 |some .string=>some .s
 |_=>none
def ay(P:Program):List Field->Option (List (Nat×Kd))
 |[]=>some []
 |f::r=>if f.name = "_" then none else
  match Cw P f.type,tKd P f.type,ay P r with
  |some false,some k,some l=>some ((f.offset,k)::l)
  |_,_,_=>none
def tEq(P:Program)(t:TypeId):Option (List (Nat×Kd)):=
 match P.underlying t with
 |some (.struct fs)=>if P.stoodInHeld t then none else if P.eqGuardType P.depth t then none else ay P fs.toList
 |_=>none
theorem Ma{b:Bool}(h:Cw P t=some b)(w:World):(isAgg t).run P w= .ok b w:=by
 unfold Cw at h
 split at h<;>rename_i hu<;>simp at h
 .subst h;simp[isAgg,run_underlying hu]
 .subst h;simp[isAgg,run_underlying hu]
 rename_i d h1 h2
 subst h
 simp only[isAgg,Sem.run_bind,run_underlying hu,Result.andThen_ok]
 cases d<;>simp_all
theorem run_sizeOf{n:Nat}(h:Aq P t=some n)(w:World):(sizeOf t).run P w= .ok n w:=by
 unfold Aq at h
 simp only[Option.map_eq_some_iff]at h
 obtain⟨i,hi,rfl⟩:=h
 simp[sizeOf,typeInfo,hi]
theorem GS{z:Value}(h:D6 P t=some z)(w:World):(zeroValue t).run P w= .ok z w:=by
 unfold D6 at h
 rw[Option.bind_eq_some_iff]at h
 obtain⟨i,hi,hz⟩:=h
 simp[zeroValue,typeInfo,hi,hz]
theorem A0O(l:List Value):zT (l.map .v)=none:=by cases l<;>rfl
theorem Sa(z:Value):zT (ofV z).cells=none:=by
 cases z with
 |agg cs=>exact A0O _
 |tuple vs=>
  show zT (SV.cells (.tup _))=none
  simp only[SV.cells]
  first|rfl|(cases vs.toList<;>rfl)
 |_=>rfl
theorem IB(l:List UInt8):(bs l).toList=l:=ByteArray.toList_mk l
theorem A4q(l:List UInt8):(⟨l.toArray⟩:ByteArray)=bs l:=rfl
theorem PB(s:ByteArray):bs s.toList=s:=by
 unfold bs;rw[ByteArray.toList_eq]
theorem vP(l:List UInt8):(bs l).size=l.length:=by simp[bs,ByteArray.size]
theorem Hf(s:ByteArray):s.size=s.toList.length:=by rw[<- vP,PB]
theorem kj(a b:List UInt8):bs a++bs b=bs (a++b):=by
 apply ByteArray.ext;simp[bs]
theorem kl(a b:ByteArray):a++b=bs (a.toList++b.toList):=by
 rw[<- kj,PB,PB]
theorem bs_inj{a b:List UInt8}(h:bs a=bs b):a=b:=by rw[<- IB a,h,IB]
theorem b4(a b:ByteArray):(a==b)=(a.toList==b.toList):=by
 show (a.data==b.data)=_
 rw[ByteArray.toList_eq,ByteArray.toList_eq,Bool.eq_iff_iff,beq_iff_eq,beq_iff_eq]
 constructor
 .intro h;rw[h]
 simp_all
def eqC:Kd->Value->Value->Option Bool
 | .b,.bool a,.bool b=>some (a==b)
 | .i,.int k a,.int k' b=>if k=k' then some (a==b) else none
 | .s,.string a,.string b=>some (a.toList==b.toList)
 |_,_,_=>none
def eqL(x y:List Value):List (Nat×Kd)->Option Bool
 |[]=>some true
 |(o,k)::r=>
  match x[o]?,y[o]? with
  |some a,some b=>match eqC k a b with
   |some c=>(eqL x y r).map (c&&·)
   |none=>none
  |_,_=>none
def Sb(c x y:Bool):Bool:=(c&&x)||(!c&&y)
theorem gP(c x:Bool):Sb c x false=(c&&x):=by simp[Sb]
theorem km(c y:Bool):Sb c true y=(c||y):=by cases c<;>simp[Sb]
def og(op:BinOp)(a b:Int):Option Bool:=
 match op with
 | .eql=>some (a==b)
 | .neq=>some (a != b)
 | .lss=>some (decide (a<b))
 | .leq=>some (decide (a<=b))
 | .gtr=>some (decide (b<a))
 | .geq=>some (decide (b<=a))
 |_=>none
def arI(op:BinOp)(k:IntKind)(a b:Int):Option (Prop×Int):=
 match op with
 | .add=>some (True,k.wrap (a+b))
 | .sub=>some (True,k.wrap (a-b))
 | .mul=>some (True,k.wrap (a*b))
 | .quo=>some (b≠0,k.wrap (a.tdiv b))
 | .rem=>some (b≠0,a.tmod b)
 |_=>none
def gQ(op:BinOp)(a b:List UInt8):Option (Prop×Value):=
 match op with
 | .add=>some (a.length+b.length<=9223372036854775807,.string (bs (a++b)))
 | .eql=>some (True,.bool (a==b))
 | .neq=>some (True,.bool (!(a==b)))
 | .lss=>some (True,.bool (Op.bytesLess a b))
 | .leq=>some (True,.bool (Op.bytesLess a b||a==b))
 | .gtr=>some (True,.bool !(Op.bytesLess a b||a==b))
 | .geq=>some (True,.bool !(Op.bytesLess a b))
 |_=>none
def Xo(P:Program)(op:BinOp)(T:TypeId):Value->Value->Option (Prop×Value)
 | .int k a,.int k' b=>
  if k=k' then
   match arI op k a b with
   |some (c,n)=>some (c,.int k n)
   |none=>(og op a b).map λx=>(True,.bool x)
  else none
 | .string a,.string b=>gQ op a.toList b.toList
 | .bool a,.bool b=>
  match op with
  | .eql=>some (P.underlying T=some .bool,.bool (a==b))
  | .neq=>some (P.underlying T=some .bool,.bool (!(a==b)))
  |_=>none
 | .agg x,.agg y=>
  match tEq P T with
  |some os=>
   match eqL x.toList y.toList os with
   |some c=>
    match op with
    | .eql=>some (True,.bool c)
    | .neq=>some (True,.bool (!c))
    |_=>none
   |none=>none
  |none=>none
 |_,_=>none
theorem A0P{a b:Value}{c:Bool}{k:Kd}(hk:tKd P t=some k)
  (h:eqC k a b=some c) (d:Nat) (w:World):(Op.equalIn (d+1) t a b).run P w= .ok c w:=by
 unfold tKd at hk
 split at hk<;>simp only[Option.some.injEq,reduceCtorEq]at hk<;>subst hk<;>rename_i hu
 all_goals (unfold eqC at h;split at h<;>simp_all [Op.equalIn,run_underlying hu,b4])
theorem cb{x y:Array Value}(d:Nat)(w:World):∀(fs:List Field) (os:List (Nat×Kd)) (c:Bool),
  ay P fs=some os->eqL x.toList y.toList os=some c->(Op.eqFields (d+1) x y fs).run P w= .ok c w:=by
 intro fs
 induction fs with
 |nil=>
  intro os c h1 h2
  simp only[ay,Option.some.injEq]at h1
  subst h1
  simp only[eqL,Option.some.injEq]at h2
  subst h2
  simp[Op.eqFields]
 |cons f fs ih=>
  intro os c h1 h2
  simp only[ay]at h1
  split at h1
  .simp at h1
  .rename_i hn
   split at h1
   .rename_i k l ha hk hl
    simp only[Option.some.injEq]at h1
    subst h1
    simp only[eqL]at h2
    split at h2
    .rename_i a b hx hy
     split at h2
     .rename_i c1 hc1
      simp only[Option.map_eq_some_iff]at h2
      obtain⟨c2,h2,rfl⟩:=h2
      have hp:∀(z:Array Value) (u:Value),z.toList[f.offset]?=some u->(part f.type z f.offset).run P w= .ok u w:=by
       intro z u hz
       rw[Array.getElem?_toList]at hz
       simp only[part,Sem.run_bind,Ma ha,Result.andThen_ok,Bool.false_eq_true,if_false,hz,Sem.run_pure]
      simp only[Op.eqFields,hn,ne_eq,not_false_eq_true,if_true,Sem.run_bind,hp x a hx,hp y b hy,Result.andThen_ok,A0P hk hc1]
      cases c1
      .simp
      .grind
     .simp at h2
    .simp at h2
   .simp at h1
theorem oh{T:TypeId}(h:P.underlying T=some .bool)(a b:Bool)(ox oy:Operand)(w:World):
  (do eqGuard .eql T ox oy (.bool a) (.bool b);binOp .eql T (.bool a) (.bool b):Sem Value).run P w= .ok (.bool (a==b)) w:=by
 have e1:(eqGuard .eql T ox oy (.bool a) (.bool b)).run P w= .ok () w:=by simp[eqGuard]
 have e2:binOp .eql T (.bool a) (.bool b)=(do pure (.bool (<- Op.equal T (.bool a) (.bool b)))):=rfl
 exact AAJ
theorem oi{T:TypeId}(h:P.underlying T=some .bool)(a b:Bool)(ox oy:Operand)(w:World):
  (do eqGuard .neq T ox oy (.bool a) (.bool b);binOp .neq T (.bool a) (.bool b):Sem Value).run P w= .ok (.bool (!(a==b))) w:=by
 have e1:(eqGuard .neq T ox oy (.bool a) (.bool b)).run P w= .ok () w:=by simp[eqGuard]
 have e2:binOp .neq T (.bool a) (.bool b)=(do pure (.bool (!(<- Op.equal T (.bool a) (.bool b))))):=rfl
 exact AAJ
theorem A0Q{T:TypeId}{os:List (Nat×Kd)}{a b:Array Value}{z:Bool}(hos:tEq P T=some os)(hz:eqL a.toList b.toList os=some z)(w:World):
  P.eqGuardType P.depth T=false/\(Op.equalIn 10000 T (.agg a) (.agg b)).run P w= .ok z w:=by
 unfold tEq at hos
 split at hos
 .rename_i fs hu
  split at hos
  .simp at hos
  .rename_i hst
   split at hos
   .simp at hos
   .rename_i hgt
    have hst':P.stoodInHeld T=false:=by simpa using hst
    have hgt':P.eqGuardType P.depth T=false:=by simpa using hgt
    have hf:P.fieldsOf T=fs:=by simp[Program.fieldsOf,hu]
    have hu':P.underlying T=some (.struct (P.fieldsOf T)):=by rw[hf];exact hu
    have he:=cb (P:=P) (x:=a) (y:=b) 9998 w fs.toList os z hos hz
    refine⟨hgt',?_⟩
    have h1:=run_equalIn_struct (P:=P) w 9999 T a b hu' hst'
    rw[hf]at h1
    exact h1.trans he
 .simp at hos
theorem vQ{op:BinOp}{T:TypeId}{y v:Value}{c:Prop}(h:Xo P op T x y=some (c,v))(hc:c)(ox oy:Operand)(w:World):
  (do eqGuard op T ox oy x y;binOp op T x y:Sem Value).run P w= .ok v w:=by
 unfold Xo at h
 split at h
 .rename_i k a k' b
  split at h
  .rename_i hk
   subst hk
   have hg:∀(w:World),(eqGuard op T ox oy (.int k a) (.int k b)).run P w= .ok () w:=by
    intro w;cases op<;>simp[eqGuard]
   split at h
   .rename_i c' n har
    simp only[Option.some.injEq,Prod.mk.injEq]at h
    obtain⟨rfl,rfl⟩:=h
    simp only[Sem.run_bind,hg,Result.andThen_ok]
    unfold arI at har
    split at har<;>simp only[Option.some.injEq,Prod.mk.injEq,reduceCtorEq]at har
    all_goals (obtain⟨rfl,rfl⟩:=har;simp[binOp,Op.intArith,Op.intDiv,hc])
   .rename_i har
    simp only[Option.map_eq_some_iff,Prod.mk.injEq]at h
    obtain⟨z,hz,rfl,rfl⟩:=h
    simp only[Sem.run_bind,hg,Result.andThen_ok]
    unfold og at hz
    split at hz<;>simp only[Option.some.injEq,reduceCtorEq]at hz
    all_goals (subst hz;simp[binOp,Op.intCmp])
  .simp at h
 .rename_i a b
  have hg:∀(w:World),(eqGuard op T ox oy (.string a) (.string b)).run P w= .ok () w:=by
   intro w;cases op<;>simp[eqGuard]
  simp only[Sem.run_bind,hg,Result.andThen_ok]
  unfold gQ at h
  split at h<;>simp only[Option.some.injEq,Prod.mk.injEq,reduceCtorEq]at h
  all_goals obtain⟨rfl,rfl⟩:=h
  .rw[<- kl]
   simp only[binOp]
   rw[run_string_add_sum w a b (by rw[Hf,Hf];exact hc)]
  all_goals simp[binOp,Op.stringOp]
 .rename_i a b
  split at h<;>simp only[Option.some.injEq,Prod.mk.injEq,reduceCtorEq]at h
  .obtain⟨rfl,rfl⟩:=h
   exact oh hc a b ox oy w
  .obtain⟨rfl,rfl⟩:=h
   exact oi hc a b ox oy w
 .rename_i a b
  split at h
  .rename_i os hos
   split at h
   .rename_i z hz
    obtain⟨hgt',hq⟩:=A0Q hos hz w
    split at h<;>simp only[Option.some.injEq,Prod.mk.injEq,reduceCtorEq]at h
    .obtain⟨rfl,rfl⟩:=h
     simp only[Sem.run_bind,run_eqGuard_agg w _ T ox oy _ _ hgt',Result.andThen_ok,run_eql_struct,hq]
    .obtain⟨rfl,rfl⟩:=h
     simp only[Sem.run_bind,run_eqGuard_agg w _ T ox oy _ _ hgt',Result.andThen_ok,run_neq_struct,hq]
   .simp at h
  .simp at h
 .simp at h
theorem Yj{T e:TypeId}(hu:P.underlying T=some (.pointer e))(a:Option Addr)(ox oy:Operand)(w:World):
  (do eqGuard .eql T ox oy (.pointer a) (.pointer none);binOp .eql T (.pointer a) (.pointer none):Sem Value).run P w= .ok (.bool a.isNone) w/\
  (do eqGuard .neq T ox oy (.pointer a) (.pointer none);binOp .neq T (.pointer a) (.pointer none):Sem Value).run P w= .ok (.bool (!a.isNone)) w:=by
 have hp:P.underlying T=some (.pointer (P.pointee T)):=by simp[Program.pointee,hu]
 have e1:(eqGuard .eql T ox oy (.pointer a) (.pointer none)).run P w= .ok () w:=by simp[eqGuard]
 have e2:(eqGuard .neq T ox oy (.pointer a) (.pointer none)).run P w= .ok () w:=by simp[eqGuard]
 simp only[Sem.run_bind,e1,e2,Result.andThen_ok,run_eql_pointer_nil w T a hp,run_neq_pointer_nil w T a hp,and_self]
abbrev Env:=Nat->Option (Bool×SV)
def oD:D->C
 | .v x=>.v x
 |x=>.d x
def rdv(E:Env):Operand->Option SV
 | .tmp t=>(E t).map (·.2)
 | .const x=>some (ofV x)
 | .func f=>some (.one (.v (.func (.func f) #[] #[])))
 | .global _=>none
def okV:Value->Bool
 | .agg cs=>cs.toList.all H6
 | .tuple _=>false
 |_=>true
def rdg(E:Env):Operand->Bool
 | .tmp t=>((E t).map (·.1)).getD false
 | .const x=>okV x
 | .func _=>true
 | .global _=>false
def SV.tupB:SV->Bool
 | .tup _=>true
 |_=>false
def reads(E:Env):List (Nat×Operand)->Option (List (Nat×SV))
 |[]=>some []
 |(i,x)::r=>match rdv E x,reads E r with
  |some v,some l=>some ((i,v)::l)
  |_,_=>none
def KO(E:Env):List (Nat×Operand)->Prop
 |[]=>True
 |(_,x)::r=>rdg E x=true/\KO E r
def GN(E:Env):List Operand->Option (List SV)
 |[]=>some []
 |x::r=>match rdv E x,GN E r with
  |some v,some l=>some (v::l)
  |_,_=>none
def FS(E:Env):List Operand->Prop
 |[]=>True
 |x::r=>rdg E x=true/\FS E r
def Ia(E:Env):Option Operand->Option (Option SV)
 |none=>some none
 |some x=>(rdv E x).map some
def HO(E:Env):Option Operand->Prop
 |none=>True
 |some x=>rdg E x=true
def setAll{α:Type}(l:List α)(o:Nat):List α->List α
 |[]=>l
 |c::r=>setAll (l.set o c) (o+1) r
theorem S6(l:List α)(o:Nat)(r:List α):(setAll l o r).length=l.length:=by
 induction r generalizing l o with
 |nil=>rfl
 |cons c r ih=>simp[setAll,ih]
def OT(P:Program):List Field->Option (List (Nat×Nat))
 |[]=>some []
 |f::r=>match Aq P f.type,OT P r with
  |some n,some l=>some ((f.offset,n)::l)
  |_,_=>none
def Dp(P:Program)(t:TypeId):Option (List (Nat×Nat)):=
 match P.underlying t with
 |some (.struct fs)=>OT P fs.toList
 |_=>none
def b5(P:Program)(t:TypeId):Option (Nat×TypeId):=
 match P.underlying t with
 |some (.array n e)=>some (n,e)
 |_=>none
def Mu(P:Program)(t:TypeId):Bool:=
 match P.underlying t with
 |some .string=>true
 |_=>false
def tPtr(P:Program)(t:TypeId):Option TypeId:=
 match P.underlying t with
 |some (.pointer e)=>some e
 |_=>none
def RP(P:Program)(t:TypeId):Option (TypeId×TypeId):=
 match P.underlying t with
 |some (.map k e)=>some (k,e)
 |_=>none
def GY(P:Program)(t:TypeId):Option Nat:=(P.info? t).map (·.bytes)
def HP(place:Nat->Option (Nat×Nat))(cells:List C):List (Nat×SV)->Option (List C)
 |[]=>some cells
 |(i,v)::rest=>
  match place i with
  |none=>none
  |some (off,size)=>if v.tupB=false/\v.cells.length=size/\off+size<=cells.length then HP place (setAll cells off v.cells) rest else none
def Kc(s:Nat):Nat->List C->List (List C)
 |0,_=>[]
 |n+1,l=>l.take s::Kc s n (l.drop s)
def Uu:Nat->List C
 |0=>[]
 |n+1=>.v (.bool false)::Uu n
def BS(es:List (List C)):Prop:=∀r∈es,∀c∈r,C.stor c=true
structure Eff where
 val:SV
 upd:List (Nat×Ch)
abbrev Res:=Option (Prop×Eff×List Nat)
def rV(c:Prop)(v:SV)(fp:List Nat):Res:=some (c,⟨v,[]⟩,fp)
def clC:C->Option Value
 | .v x=>some x
 |_=>none
def clL:List C->Option (List Value)
 |[]=>some []
 |c::r=>match clC c,clL r with
  |some v,some l=>some (v::l)
  |_,_=>none
def OU:SV->Option Value
 | .one c=>clC c
 | .agg l=>(clL l).map λvs=>.agg vs.toArray
 | .tup _=>none
def LQ(E:Env)(x:Operand):Res:=(rdv E x).bind λv=>rV (rdg E x=true) v []
def Qe(E:Env)(c a b:Operand):Res:=
 match rdv E c,rdv E a,rdv E b with
 |some (.one (.v (.bool z))),some (.one (.v (.bool x))),some (.one (.v (.bool y)))=>
  rV (rdg E c=true/\(z=true->rdg E a=true)/\(z=false->rdg E b=true)) (.one (.v (.bool (Sb z x y)))) []
 |_,_,_=>none
def tgN(T:TypeId):Nat->List C
 |0=>[]
 |n+1=>.d (.v (.pointer (some ⟨T,0,none⟩)))::Uu n
def Qg(P:Program)(T:TypeId)(t:Nat):Res:=
 (D6 P T).bind λz=>some (okV z=true,⟨.one (.p t 0 0),[(t,.vec 0 (tgN T (ofV z).cells.length) [(ofV z).cells])]⟩,[t])
def Tw(E:Env)(x:Operand)(t:Nat):Res:=
 (rdv E x).bind λv=>some (rdg E x=true/\v.tupB=false/\v.cells.all C.stor=true,⟨.one (.p t 0 0),[(t,.vec 0 (Uu v.cells.length) [v.cells])]⟩,[t])
def Nn(P:Program)(E:Env)(T:TypeId)(ps:List (Nat×Operand)):Res:=
 match Dp P T,D6 P T,reads E ps with
 |some pl,some z,some vs=>(HP (pl[·]?) (ofV z).cells vs).bind λcs=>rV (KO E ps/\okV z=true) (.agg cs) []
 |_,_,_=>match b5 P T,D6 P T,reads E ps with
  |some (_,e),some z,some vs=>match Aq P e with
   |some s=>(HP (λi=>some (i*s,s)) (ofV z).cells vs).bind λcs=>rV (KO E ps/\okV z=true) (.agg cs) []
   |none=>none
  |_,_,_=>none
def Mv{α:Type}:Nat->List α->List α
 |0,_=>[]
 |n+1,l=>l++Mv n l
def I5(P:Program)(E:Env)(T:TypeId)(n:Nat)(ps:List (Nat×Operand))(t:Nat):Res:=
 match DU P T,reads E ps with
 |some e,some vs=>
  match Aq P e,D6 P e with
  |some s,some z=>
   (HP (λi=>some (i*s,s)) (Mv n (ofV z).cells) vs).bind λcs=>
    some (KO E ps/\okV z=true/\n*s<=16777216/\0<s/\(ofV z).cells.length=s/\cs.all C.stor=true,⟨.one (.s t),[(t,.vec 0 (ofV z).cells (Kc s n cs))]⟩,[t])
  |_,_=>none
 |_,_=>none
def Ix(P:Program)(E:Env)(T:TypeId)(a b:Operand)(t:Nat):Res:=
 match DU P T,rdv E a,rdv E b with
 |some e,some (.one (.v (.int .i64 n))),some (.one (.v (.int .i64 m)))=>
  match Aq P e,D6 P e,GY P e with
  |some s,some z,some y=>some (rdg E a=true/\rdg E b=true/\m=n/\0<=n/\n*y<=281474976710656/\n<=9223372036854775807/\okV z=true/\0<s/\(ofV z).cells.length=s,⟨.one (.s t),[(t,.vec 0 (ofV z).cells (List.replicate n.toNat (ofV z).cells))]⟩,[t])
  |_,_,_=>none
 |_,_,_=>none
def ldc(k u:Nat)(p:List (Nat×Nat))(i:Nat):Nat->List C->List C
 |_,[]=>[]
 |j,.ov _ _::r=>.vw k u (p++[(i,j)])::ldc k u p i (j+1) r
 |j,c::r=>c::ldc k u p i (j+1) r
def ldV(g:Option Bool)(n:Nat)(l:List C):Option SV:=
 match g with
 |some true=>if n<=l.length then some (.agg (l.take n)) else none
 |some false=>match l with
  |c::_=>some (.one c)
  |[]=>none
 |none=>none
def LR(P:Program)(E:Env)(H:Hp)(T:TypeId)(x:Operand):Res:=
 match rdv E x,Aq P T with
 |some (.one (.p k i j)),some n=>
  match H k with
  |some (.vec u z es)=>(ldV (Cw P T) n (ldc k u [] i j ((es.getD i z).drop j))).bind λv=>rV (rdg E x=true/\i<es.length) v [k]
  |_=>none
 |some (.one (.dp cs)),some n=>(ldV (Cw P T) n (cs.map oD)).bind λv=>rV (rdg E x=true) v []
 |some (.one (.d (.pt (some cs)))),some n=>(ldV (Cw P T) n (cs.map oD)).bind λv=>rV (rdg E x=true) v []
 |some (.one (.q k u p s m o)),some n=>
  match H k with
  |some (.vec u' z es)=>
   match Et p z es with
   |some (.ov z' es')=>(ldV (Cw P T) n (ldc k u p m o ((es'.getD m z').drop o))).bind λv=>rV (rdg E x=true/\u'=u/\s=z'.length/\inP p z es/\m<es'.length) v [k]
   |_=>none
  |_=>none
 |_,_=>none
def Jv(P:Program)(E:Env)(H:Hp)(T:TypeId)(x y:Operand):Res:=
 match rdv E x,rdv E y,Aq P T with
 |some (.one (.p k i j)),some v,some n=>
  match H k with
  |some (.vec u z es)=>some (rdg E x=true/\rdg E y=true/\v.tupB=false/\v.cells.length=n/\0<n/\i<es.length/\j+n<=z.length/\v.cells.all C.stor=true,
    ⟨.one (.v (.bool true)),[(k,.vec (u+1) z (es.set i (setAll (es.getD i z) j v.cells)))]⟩,[k])
  |_=>none
 |some (.one (.q k u p s m o)),some v,some n=>
  match H k with
  |some (.vec u' z es)=>
   match Et p z es with
   |some (.ov z' es')=>some (rdg E x=true/\rdg E y=true/\u'=u/\s=z'.length/\v.tupB=false/\v.cells.length=n/\0<n/\inP p z es/\m<es'.length/\o+n<=z'.length/\v.cells.all C.stor=true/\v.cells.flatMap C.names=[],
     ⟨.one (.v (.bool true)),[(k,.vec (u+1) z (He p z es (.ov z' (es'.set m (setAll (es'.getD m z') o v.cells)))))]⟩,[k])
   |_=>none
  |_=>none
 |_,_,_=>none
def RQ(H:Hp):C->Option (Prop×List Nat)
 | .p k i _=>match H k with
  |some (.vec _ _ es)=>some (i<es.length,[k])
  |_=>none
 | .q k u p _ m _=>match H k with
  |some (.vec u' z es)=>match Et p z es with
   |some (.ov _ es')=>some (u'=u/\inP p z es/\m<es'.length,[k])
   |_=>none
  |_=>none
 | .dp _=>some (True,[])
 | .d (.pt (some _))=>some (True,[])
 |_=>none
def ptrA(n:Nat):C->C
 | .p k i j=>.p k i (j+n)
 | .q k u p s m o=>.q k u p s m (o+n)
 | .dp cs=>.dp (cs.drop n)
 | .d (.pt (some cs))=>.dp (cs.drop n)
 |c=>c
def Ft(P:Program)(E:Env)(H:Hp)(T:TypeId)(x:Operand)(f:Nat):Res:=
 match rdv E x,AA P T f with
 |some (.one c),some (o,ft)=>match Aq P ft,RQ H c with
  |some n,some (g,fp)=>rV (rdg E x=true/\n≠0/\g) (.one (ptrA o c)) fp
  |_,_=>none
 |_,_=>none
def Np(P:Program)(E:Env)(T:TypeId)(x:Operand)(f:Nat):Res:=
 match rdv E x,AA P T f with
 |some (.agg l),some (o,ft)=>
  match Aq P ft with
  |some n=>(ldV (Cw P ft) n (l.drop o)).bind λv=>rV (rdg E x=true) v []
  |none=>none
 |_,_=>none
def Fv(P:Program)(E:Env)(H:Hp)(T:TypeId)(x i:Operand):Res:=
 match rdv E x,rdv E i with
 |some (.one (.s k)),some (.one (.v (.int _ n)))=>
  match H k,DU P T with
  |some (.vec _ z es),some e=>(Aq P e).bind λs=>rV (rdg E x=true/\rdg E i=true/\0<=n/\n<es.length/\s=z.length) (.one (.p k n.toNat 0)) [k]
  |_,_=>none
 |some (.one (.d (.sl z es))),some (.one (.v (.int _ n)))=>
  (DU P T).bind λe=>(Aq P e).bind λs=>rV (rdg E x=true/\rdg E i=true/\0<=n/\n<es.length/\s=z.length) (.one (.dp (es.getD n.toNat z))) []
 |some (.one (.df z es)),some (.one (.v (.int _ n)))=>
  (DU P T).bind λe=>(Aq P e).bind λs=>rV (rdg E x=true/\rdg E i=true/\0<=n/\n<es.length/\s=z.length) (.one (.dp (es.getD n.toNat z))) []
 |some (.one (.vw k u p)),some (.one (.v (.int _ n)))=>
  match H k,DU P T with
  |some (.vec u' z es),some e=>
   match Et p z es with
   |some (.ov z' es')=>(Aq P e).bind λs=>rV (rdg E x=true/\rdg E i=true/\u'=u/\inP p z es/\0<=n/\n<es'.length/\s=z'.length) (.one (.q k u p s n.toNat 0)) [k]
   |_=>none
  |_,_=>none
 |some (.one c),some (.one (.v (.int _ n)))=>
  match b5 P T with
  |some ae=>match Aq P ae.2,RQ H c with
   |some s,some (g,fp)=>rV (rdg E x=true/\rdg E i=true/\0<=n/\n<ae.1/\g) (.one (ptrA (n.toNat*s) c)) fp
   |_,_=>none
  |none=>none
 |_,_=>none
def Nq(P:Program)(E:Env)(T:TypeId)(x i:Operand):Res:=
 match rdv E x,rdv E i with
 |some (.one (.v (.string s))),some (.one (.v (.int _ n)))=>
  if Mu P T=true then rV (rdg E x=true/\rdg E i=true/\0<=n/\n<s.toList.length) (.one (.v (.int .u8 (s.toList.getD n.toNat 0).toNat))) [] else none
 |some (.agg l),some (.one (.v (.int _ n)))=>
  (b5 P T).bind λae=>(Aq P ae.2).bind λs=>(ldV (Cw P ae.2) s (l.drop (n.toNat*s))).bind λv=>rV (rdg E x=true/\rdg E i=true/\0<=n/\n<ae.1) v []
 |_,_=>none
def boI(v:Option SV)(d:Int):Option Int:=
 match v with
 |none=>some d
 |some (.one (.v (.int _ n)))=>some n
 |_=>none
def Jw(P:Program)(E:Env)(H:Hp)(T:TypeId)(x:Operand)(lo hi mx:Option Operand)(t:Nat):Res:=
 match rdv E x,Ia E lo,Ia E hi,Ia E mx with
 |some (.one (.v (.string s))),some a,some b,some none=>
  match boI a 0,boI b s.toList.length with
  |some i,some j=>if Mu P T=true then rV (rdg E x=true/\HO E lo/\HO E hi/\0<=i/\i<=j/\j<=s.toList.length) (.one (.v (.string (bs ((s.toList.drop i.toNat).take (j.toNat-i.toNat)))))) [] else none
  |_,_=>none
 |some (.one (.d (.sl z es))),some a,some b,some m=>
  match boI a 0,boI b es.length,DU P T with
  |some i,some j,some e=>
   match m with
   |none=>rV (rdg E x=true/\HO E lo/\HO E hi/\0<=i/\i<=j/\j<=es.length/\Aq P e=some z.length) (.one (.d (.sl z ((es.drop i.toNat).take (j.toNat-i.toNat))))) []
   |some m=>match b,boI (some m) 0 with
    |some _,some q=>rV (rdg E x=true/\HO E lo/\HO E hi/\HO E mx/\0<=i/\i<=j/\j<=es.length/\q=j/\Aq P e=some z.length) (.one (.df z ((es.drop i.toNat).take (j.toNat-i.toNat)))) []
    |_,_=>none
  |_,_,_=>none
 |some (.one (.s k)),some a,some b,some none=>
  match H k,DU P T with
  |some (.vec _ z es),some e=>
   match boI a 0,boI b es.length with
   |some i,some j=>some (rdg E x=true/\HO E lo/\HO E hi/\0<=i/\i<=j/\j<=es.length/\Aq P e=some z.length/\zT z=none/\BS es,⟨.one (.s t),[(t,.vec 0 z ((es.drop i.toNat).take (j.toNat-i.toNat))),(k,.dead)]⟩,[t,k])
   |_,_=>none
  |_,_=>none
 |_,_,_,_=>none
def Ky(E:Env)(x:Operand)(i:Nat):Res:=
 match rdv E x with
 |some (.tup l)=>match l[i]? with
  |some (.inl c)=>rV (rdg E x=true) (.one c) []
  |some (.inr cs)=>rV (rdg E x=true) (.agg cs) []
  |none=>none
 |_=>none
def L0(P:Program)(E:Env)(s d:TypeId)(x:Operand):Res:=
 match rdv E x,PX P s,PX P d with
 |some (.one (.v (.int _ n))),some _,some k=>rV (rdg E x=true) (.one (.v (.int k (k.wrap n)))) []
 |_,_,_=>none
def LS:C->Option Bool
 | .v (.pointer none)=>some true
 | .v (.pointer (some _))=>some false
 | .d (.pt none)=>some true
 | .d (.pt (some _))=>some false
 | .dp _=>some false
 |_=>none
def Sc(P:Program)(op:BinOp)(T:TypeId):SV->SV->Option Bool
 | .one c,.one (.v (.pointer none))=>
  match op,tPtr P T with
  | .eql,some _=>LS c
  | .neq,some _=>(LS c).map (!·)
  |_,_=>none
 |_,_=>none
def Tx(P:Program)(E:Env)(op:BinOp)(T:TypeId)(x y:Operand):Res:=
 match rdv E x,rdv E y with
 |some a,some b=>
  match OU a,OU b with
  |some u,some v=>match Xo P op T u v with
   |some r=>rV (rdg E x=true/\rdg E y=true/\r.1) (ofV r.2) []
   |none=>match Sc P op T a b with
    |some z=>rV (rdg E x=true/\rdg E y=true) (.one (.v (.bool z))) []
    |none=>none
  |_,_=>match Sc P op T a b with
   |some z=>rV (rdg E x=true/\rdg E y=true) (.one (.v (.bool z))) []
   |none=>none
 |_,_=>none
def unV:UnOp->SV->Option SV
 | .not,.one (.v (.bool b))=>some (.one (.v (.bool (!b))))
 | .neg,.one (.v (.int k n))=>some (.one (.v (.int k (k.wrap (0-n)))))
 |_,_=>none
def Xp(E:Env)(op:UnOp)(x:Operand):Res:=
 match rdv E x with
 |some a=>(unV op a).bind λr=>rV (rdg E x=true) r []
 |_=>none
def gR:C->Bool
 | .p _ _ _=>false
 | .d (.pt (some _))=>true
 | .dp _=>true
 | .v (.func (.func _) _ _)=>true
 | .fn _ _=>true
 |_=>false
def N7(E:Env)(H:Hp)(x:Operand):Res:=
 match rdv E x with
 |some (.one (.p k i j))=>match H k with
  |some (.vec _ _ es)=>rV (rdg E x=true/\i<es.length) (.one (.p k i j)) [k]
  |_=>none
 |some (.one (.q k u p s m o))=>match RQ H (.q k u p s m o) with
  |some (g,fp)=>rV (rdg E x=true/\g) (.one (.q k u p s m o)) fp
  |none=>none
 |some (.one c)=>if gR c=true then rV (rdg E x=true) (.one c) [] else none
 |_=>none
def Uv(H:Hp):C->Option (Prop×Int×List Nat)
 | .d (.sl _ es)=>some (True,es.length,[])
 | .df _ es=>some (True,es.length,[])
 | .v (.slice none 0 0)=>some (True,0,[])
 | .s k=>match H k with
  |some (.vec _ _ es)=>some (True,es.length,[k])
  |_=>none
 | .vw k u p=>match H k with
  |some (.vec u' z es)=>match Et p z es with
   |some (.ov _ es')=>some (u'=u/\inP p z es,es'.length,[k])
   |_=>none
  |_=>none
 |_=>none
def Jf(H:Hp)(z:List C):C->Option (List (List C)×List Nat)
 | .d (.sl _ es)=>some (es.map (λr=>r.map oD),[])
 | .df _ es=>some (es.map (λr=>r.map oD),[])
 | .v (.slice none 0 0)=>some ([],[])
 | .s k=>match H k with
  |some (.vec _ _ es)=>some (es,[k])
  |_=>none
 |_=>none
def KC(H:Hp):C->Option Nat
 | .d (.sl z _)=>some z.length
 | .df z _=>some z.length
 | .s k=>match H k with
  |some (.vec _ z _)=>some z.length
  |_=>none
 |_=>none
def Ty:List (List C)->Option (List Int)
 |[]=>some []
 |[.v (.int .u8 n)]::r=>(Ty r).map (n::·)
 |_::_=>none
def byN(n:Int):UInt8:=UInt8.ofNat n.toNat
def Jx(P:Program)(E:Env)(H:Hp)(s d:TypeId)(x:Operand):Res:=
 match rdv E x,DU P s,Mu P d with
 |some (.one c),some e,true=>
  match PX P e,Jf H [] c with
  |some .u8,some (rows,f)=>(Ty rows).bind λns=>rV (rdg E x=true/\(∀q,KC H c=some q->q=1)) (.one (.v (.string (bs (ns.map byN))))) f
  |_,_=>none
 |_,_,_=>none
def Lv(H:Hp)(z:List C):C->Option (List (List C)×List Nat)
 | .v (.string s)=>some (s.toList.map λb=>[.v (.int .u8 b.toNat)],[])
 |c=>Jf H z c
def Ke(H:Hp):C->Option Nat
 | .v (.string _)=>some 1
 |c=>KC H c
def OV(P:Program)(U:TypeId):Option SV->Option Unit
 |some (.one (.v (.string _)))=>if Mu P U=true then some () else none
 |_=>(DU P U).map λ_=>()
def Ib(P:Program)(E:Env)(H:Hp)(x y:Operand)(T U:TypeId)(t:Nat):Res:=
 match rdv E x,rdv E y,DU P T,OV P U (rdv E y) with
 |some (.one a),some (.one b),some e,some _=>
  match Aq P e,D6 P e,GY P e with
  |some s,some z,some w=>
   match Lv H (ofV z).cells b with
   |some (rows,f2)=>
    match a with
    | .v (.slice none 0 0)=>some (rdg E x=true/\rdg E y=true/\0<s/\(ofV z).cells.length=s/\(∀q,Ke H b=some q->q=s)/\BS rows/\rows.length*w<=140737488355328/\rows.length<=9223372036854775807,
      ⟨.one (.s t),[(t,.vec 0 (ofV z).cells rows)]⟩,t::f2)
    | .df z' es'=>some (rdg E x=true/\rdg E y=true/\0<s/\z'.length=s/\(ofV z).cells.length=s/\0<rows.length/\(∀q,Ke H b=some q->q=s)/\BS rows/\(es'.length+rows.length)*w<=140737488355328/\es'.length+rows.length<=9223372036854775807,
      ⟨.one (.s t),[(t,.vec 0 (ofV z).cells (es'.map (λr=>r.map oD)++rows))]⟩,t::f2)
    | .s k=>match H k with
     |some (.vec _ z' es)=>some (rdg E x=true/\rdg E y=true/\0<s/\(z'.length=s/\(zT z'=none∨zT z'=some e))/\(ofV z).cells.length=s/\(∀q,Ke H b=some q->q=s)/\BS rows/\b.names≠[k]/\(es.length+rows.length)*w<=140737488355328/\es.length+rows.length<=9223372036854775807,
       ⟨.one (.s t),[(t,.vec 0 z' (es++rows)),(k,.dead)]⟩,t::k::f2)
     |_=>none
    | .vw k u p=>match H k with
     |some (.vec u' zz es)=>match Et p zz es with
      |some (.ov z' es')=>some (rdg E x=true/\rdg E y=true/\u'=u/\inP p zz es/\0<s/\(z'.length=s/\(zT z'=none∨zT z'=some e))/\(ofV z).cells.length=s/\(∀q,Ke H b=some q->q=s)/\BS rows/\b.names≠[k]/\(es'.length+rows.length)*w<=140737488355328/\es'.length+rows.length<=9223372036854775807,
        ⟨.one (.s t),[(t,.vec 0 z' (es'++rows)),(k,.vec (u'+1) zz (He p zz es .any))]⟩,t::k::f2)
      |_=>none
     |_=>none
    |_=>none
   |none=>none
  |_,_,_=>none
 |_,_,_,_=>none
def LU(P:Program)(E:Env)(H:Hp)(x y:Operand)(T U:TypeId):Res:=
 match rdv E x,rdv E y,DU P T,DU P U with
 |some (.one (.s k)),some (.one b),some e,some _=>
  match H k,Aq P e with
  |some (.vec u z es),some s=>
   match Jf H [] b with
   |some (rows,f)=>some (rdg E x=true/\rdg E y=true/\0<s/\z.length=s/\0<es.length/\(∀q,KC H b=some q->q=s)/\BS rows,
     ⟨.one (.v (.int .i64 (min rows.length es.length:Nat))),[(k,.vec (u+1) z (rows.take es.length++es.drop rows.length))]⟩,k::f)
   |none=>none
  |_,_=>none
 |_,_,_,_=>none
theorem A4r(H:Hp)(z:List C)(a:Option Addr)(m n:Nat):Lv H z (.v (.slice a m n))=Jf H z (.v (.slice a m n)):=rfl
theorem A4s(H:Hp)(a:Option Addr)(m n:Nat):Ke H (.v (.slice a m n))=KC H (.v (.slice a m n)):=rfl
theorem A4t(P:Program)(U:TypeId)(a:Option Addr)(m n:Nat):OV P U (some (.one (.v (.slice a m n))))=(DU P U).map λ_=>():=rfl
theorem A7v(H:Hp)(z:List C)(x:D):Lv H z (.d x)=Jf H z (.d x):=rfl
theorem A7w(H:Hp)(x:D):Ke H (.d x)=KC H (.d x):=rfl
theorem A7x(P:Program)(U:TypeId)(x:D):OV P U (some (.one (.d x)))=(DU P U).map λ_=>():=rfl
theorem A4u(H:Hp)(z:List C)(z2:List D)(es:List (List D)):Lv H z (.df z2 es)=Jf H z (.df z2 es):=rfl
theorem A4v(H:Hp)(z2:List D)(es:List (List D)):Ke H (.df z2 es)=KC H (.df z2 es):=rfl
theorem A4w(P:Program)(U:TypeId)(z2:List D)(es:List (List D)):OV P U (some (.one (.df z2 es)))=(DU P U).map λ_=>():=rfl
theorem A7y(H:Hp)(z:List C)(k:Nat):Lv H z (.s k)=Jf H z (.s k):=rfl
theorem A7z(H:Hp)(k:Nat):Ke H (.s k)=KC H (.s k):=rfl
theorem A80(P:Program)(U:TypeId)(k:Nat):OV P U (some (.one (.s k)))=(DU P U).map λ_=>():=rfl
theorem A4x(H:Hp)(z:List C)(s:ByteArray):Lv H z (.v (.string s))=some (s.toList.map λb=>[.v (.int .u8 b.toNat)],[]):=rfl
theorem A4y(H:Hp)(s:ByteArray):Ke H (.v (.string s))=some 1:=rfl
theorem A4z(P:Program)(U:TypeId)(s:ByteArray):OV P U (some (.one (.v (.string s))))=if Mu P U=true then some () else none:=rfl
theorem A0R:zT []=none:=rfl
theorem A0S(l:List C):zT (.any::l)=none:=rfl
theorem A81(x:Value)(l:List C):zT (.v x::l)=none:=rfl
theorem A82(k i j:Nat)(l:List C):zT (.p k i j::l)=none:=rfl
theorem A83(k:Nat)(l:List C):zT (.s k::l)=none:=rfl
theorem A0T(z:List D)(es:List (List D))(l:List C):zT (.d (.sl z es)::l)=none:=rfl
theorem A0U(o:Option (List D))(l:List C):zT (.d (.pt o)::l)=none:=rfl
theorem A50(z:List D)(es:List (List D))(l:List C):zT (.df z es::l)=none:=rfl
theorem A51(cs:List D)(l:List C):zT (.dp cs::l)=none:=rfl
theorem A52(z:List C)(es:List (List C))(l:List C):zT (.ov z es::l)=none:=rfl
theorem A53(f:FuncId)(cs:List C)(l:List C):zT (.fn f cs::l)=none:=rfl
theorem A54(a:Addr)(l:List C):zT (.d (.v (.pointer (some a)))::l)=some a.block:=rfl
def mn(a b:Int):Int:=if b<a then b else a
def mx(a b:Int):Int:=if a<b then b else a
def HQ(P:Program)(E:Env)(H:Hp)(b:Builtin)(args:List Operand)(ts:List TypeId):Res:=
 match b,GN E args with
 | .min,some [.one (.v (.int k x)),.one (.v (.int _ y))]=>rV (FS E args) (.one (.v (.int k (mn x y)))) []
 | .max,some [.one (.v (.int k x)),.one (.v (.int _ y))]=>rV (FS E args) (.one (.v (.int k (mx x y)))) []
 | .min,some [.one (.v (.int k x)),.one (.v (.int _ y)),.one (.v (.int _ z)),.one (.v (.int _ u))]=>rV (FS E args) (.one (.v (.int k (mn (mn (mn x y) z) u)))) []
 | .max,some [.one (.v (.int k x)),.one (.v (.int _ y)),.one (.v (.int _ z)),.one (.v (.int _ u))]=>rV (FS E args) (.one (.v (.int k (mx (mx (mx x y) z) u)))) []
 | .len,some [.one (.v (.string s))]=>match ts with
  |[T]=>if Mu P T=true then rV (FS E args) (.one (.v (.int .i64 s.toList.length))) [] else none
  |_=>none
 | .len,some [.one c]=>match ts with
  |[T]=>match DU P T,Uv H c with
   |some _,some (p,n,f)=>rV (FS E args/\p) (.one (.v (.int .i64 n))) f
   |_,_=>none
  |_=>none
 |_,_=>none
def AH{α:Type}:List (List UInt8×α)->List UInt8->Option α
 |[],_=>none
 |(k',x)::r,k=>if (k'==k)=true then some x else AH r k
def B5{α:Type}:List (List UInt8×α)->List UInt8->α->List (List UInt8×α)
 |[],k,x=>[(k,x)]
 |(k',y)::r,k,x=>if (k'==k)=true then (k,x)::r else (k',y)::B5 r k x
theorem Kg{α:Type}(f:α->β)(k:List UInt8):∀l:List (List UInt8×α),AH (l.map λp=>(p.1,f p.2)) k=(AH l k).map f
 |[]=>rfl
 |(k',x)::r=>by
  simp only[List.map_cons,AH]
  split
  .rfl
  exact Kg f k r
theorem OW{α:Type}(f:α->β)(k:List UInt8)(x:α):∀l:List (List UInt8×α),B5 (l.map λp=>(p.1,f p.2)) k (f x)=(B5 l k x).map λp=>(p.1,f p.2)
 |[]=>rfl
 |(k',y)::r=>by
  simp only[List.map_cons,B5]
  split
  .rfl
  simp only[List.map_cons,OW f k x r]
def ZT:List C->C
 |c::_=>c
 |[]=>.any
def RR(H:Hp):C->Option (Option Bool×List (List UInt8×List C)×List Nat)
 | .s k=>match H k with
  |some (.mp ag es)=>some (some ag,es,[k])
  |_=>none
 | .d (.mp es)=>some (some false,es.map (λp=>(p.1,[.v p.2])),[])
 | .v (.map none)=>some (none,[],[])
 |_=>none
def ol:SV->Bool
 | .agg _=>true
 |_=>false
def Mb(P:Program)(T:TypeId)(t:Nat):Res:=
 match RP P T with
 |some (kt,et)=>match Cw P et,Mu P kt with
  |some ag,true=>some (True,⟨.one (.s t),[(t,.mp ag [])]⟩,[t])
  |_,_=>none
 |none=>none
def lkV(ag ok:Bool)(r:List C)(has:Bool):SV:=
 match ag,ok with
 |true,true=>.tup [.inr r,.inl (.v (.bool has))]
 |false,true=>.tup [.inl (ZT r),.inl (.v (.bool has))]
 |true,false=>.agg r
 |false,false=>.one (ZT r)
def Ie(P:Program)(E:Env)(H:Hp)(T:TypeId)(x ix:Operand)(ok:Bool):Res:=
 match rdv E x,rdv E ix,RP P T with
 |some (.one c),some (.one (.v (.string key))),some (kt,et)=>
  match Mu P kt,D6 P et,Cw P et,RR H c with
  |true,some z,some ag,some (ag',es,fp)=>
   rV (rdg E x=true/\rdg E ix=true/\okV z=true/\ol (ofV z)=ag/\(ag'=none∨ag'=some ag)) (lkV ag ok ((AH es key.toList).getD (ofV z).cells) (AH es key.toList).isSome) fp
  |_,_,_,_=>none
 |_,_,_=>none
def Ee(P:Program)(E:Env)(H:Hp)(T:TypeId)(x k v:Operand):Res:=
 match rdv E x,rdv E k,rdv E v,RP P T with
 |some (.one (.s n)),some (.one (.v (.string key))),some sv,some (kt,_)=>
  match H n,Mu P kt with
  |some (.mp ag es),true=>some (rdg E x=true/\rdg E k=true/\rdg E v=true/\sv.tupB=false/\ol sv=ag/\sv.cells.all C.stor=true,⟨.one (.v (.bool true)),[(n,.mp ag (B5 es key.toList sv.cells))]⟩,[n])
  |_,_=>none
 |_,_,_,_=>none
def Tz:C->Bool
 | .p _ _ _=>true
 | .s _=>true
 | .v _=>true
 |_=>false
def PC:List SV->Option (List C)
 |[]=>some []
 | .one c::r=>(PC r).map (c::·)
 |_::_=>none
def Jy(E:Env)(f:FuncId)(caps:List Operand):Res:=
 (GN E caps).bind λvs=>(PC vs).bind λcs=>rV (FS E caps/\cs.all Tz=true) (.one (.fn f cs)) []
end Go.Sy
