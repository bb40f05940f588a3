/- The lexer of the reference, in plain words. No conditions but those in each statement. -/
import Derived.Test.YtapedeoheilnnaaGreatGs
import Derived.Test.YtapedeoheilnnaaGreatSy28
set_option linter.all false
open List (length_map getElem?_eq_getElem mem_cons_of_mem)
namespace Go.Proofs.YtapedeoheilnnaaGreat
open Go Go.Sy Go.RowKit
abbrev E1(l:List UInt8):Prop:=l.length<=4294967296
def M3(b:Int):Bool:=decide (97<=b)&&decide (b<=122)||(decide (65<=b)&&decide (b<=90))||b==95
def F9(b:Int):Bool:=decide (48<=b)&&decide (b<=57)
abbrev chI(l:List UInt8)(i:Nat):Int:=((l.getD i 0).toNat:Int)
def idB(b:Int):Bool:=M3 b||F9 b
def Gd(x:Tok):List C:=[.v (.int .i64 x.k),.v (.string (bs x.t)),.v (.int .i64 x.p)]
def A22(x:Tok):List D:=[.v (.int .i64 x.k),.v (.string (bs x.t)),.v (.int .i64 x.p)]
def FW:List C:=[.v (.int .i64 0),.v (.string ByteArray.empty),.v (.int .i64 0)]
theorem A23:zT FW=none:=rfl
attribute [go_sem] A23
def MK:List D:=[.v (.int .i64 0),.v (.string ByteArray.empty),.v (.int .i64 0)]
theorem xG(u:Nat)(z:List C)(l:List Tok):chNames (.vec u z (l.map Gd))=[]:=bk Gd (by intro a c hc;simp only[Gd,List.mem_cons,List.not_mem_nil,or_false]at hc;rcases hc with rfl|rfl|rfl<;>rfl) u z l
theorem E2(l:List Tok):List.flatMap (λr=>List.flatMap C.names r) (l.map Gd)=[]:=xG 0 [] l
theorem lW(l:List Tok):EZ (l.map Gd)=some (l.map A22):=Hi Gd (λ_=>rfl) l
theorem Nw(k t:Nat)(l:List Tok):(l.map Gd).map (λr=>r.map (mvC k t))=l.map Gd:=HU Gd (λ_=>rfl) l
def MM(r:List Tok×Int×Int):SV:=.tup [.inl (.d (.sl MK (r.1.map A22))),.inl (.v (.int .i64 r.2.1)),.inl (.v (.int .i64 r.2.2))]
def Oh(l:List UInt8)(c:Int):Bool:=l.any λb=>((b.toNat:Nat):Int)==c
theorem xH{l:List UInt8}{i:Nat}(h:i<l.length)(c:Int):Oh (l.drop i) c=(((l.getD i 0).toNat:Int)==c||Oh (l.drop (i+1)) c):=by
 rw[List.drop_eq_getElem_cons h]
 simp only[Oh,List.any_cons,List.getD,getElem?_eq_getElem h,Option.getD_some]
def blB(c:Int):Bool:=c==32||c==9||c==13||c==10
def nlB(c:Int):Bool:=!(c==10)
def dgF:List UInt8->Int->Bool->Int×Bool
 |[],n,g=>(n,g)
 |b::r,n,g=>if F9 (b.toNat:Int)=true then (if decide (922337203685477580<n)=true then dgF r n true else dgF r (IntKind.u64.wrap (IntKind.u64.wrap (10*n)+IntKind.u64.wrap (IntKind.u8.wrap ((b.toNat:Int)-48)))) g) else (n,g)
theorem A24{l:List UInt8}{i:Nat}(h:i<l.length)(n:Int)(g:Bool):dgF (l.drop i) n g=if F9 (chI l i)=true then (if decide (922337203685477580<n)=true then dgF (l.drop (i+1)) n true else dgF (l.drop (i+1)) (IntKind.u64.wrap (IntKind.u64.wrap (10*n)+IntKind.u64.wrap (IntKind.u8.wrap (chI l i-48)))) g) else (n,g):=by
 rw[List.drop_eq_getElem_cons h]
 simp only[dgF,chI,List.getD,getElem?_eq_getElem h,Option.getD_some]
theorem xI{l:List UInt8}{i:Nat}(h:l.length<=i)(n:Int)(g:Bool):dgF (l.drop i) n g=(n,g):=by
 rw[List.drop_eq_nil_of_le h];rfl
def Y8(l:List UInt8):Bool:=(dgF l 0 false).2||decide (9223372036854775807<(dgF l 0 false).1)
def iE(s:List UInt8)(i:Nat):Bool:=decide (((i+2:Nat):Int)<=(s.length:Int))&&((s.drop i).take 2==[61,61]||(s.drop i).take 2==[33,61]||(s.drop i).take 2==[60,61]||(s.drop i).take 2==[62,61]||(s.drop i).take 2==[38,38]||(s.drop i).take 2==[124,124])
abbrev WQ:List UInt8:=[61,60,62,43,45,42,47,37,38,33,40,41,123,125,91,93,44,59]
def rxF(s:List UInt8):Nat->Nat->List Tok->List Tok×Int×Int
 |0,_,out=>(out,0,0)
 |f+1,i,out=>
  if s.length<=i then (out,0,0)
  else if blB (chI s i)=true then rxF s f (i+1) out
  else if (chI s i==35)=true then rxF s f (i+Dr nlB (s.drop i)) out
  else if M3 (chI s i)=true then (if decide (32<((Dr idB (s.drop i):Nat):Int))=true then ([],(i:Int),53) else rxF s f (i+Dr idB (s.drop i)) (out++[⟨0,(s.drop i).take (Dr idB (s.drop i)),(i:Int)⟩]))
  else if F9 (chI s i)=true then
   (
    if Y8 (s.drop i)=true then ([],(i:Int),53)
    else if (decide (((i+Dr F9 (s.drop i):Nat):Int)<(s.length:Int))&&M3 (chI s (i+Dr F9 (s.drop i)))||(chI s i==48&&decide (1<((Dr F9 (s.drop i):Nat):Int))))=true then ([],(i:Int),50)
    else rxF s f (i+Dr F9 (s.drop i)) (out++[⟨1,(s.drop i).take (Dr F9 (s.drop i)),(i:Int)⟩]))
  else if iE s i=true then rxF s f (i+2) (out++[⟨2,(s.drop i).take 2,(i:Int)⟩])
  else if Oh WQ (chI s i)=true then rxF s f (i+1) (out++[⟨2,(s.drop i).take 1,(i:Int)⟩])
  else ([],(i:Int),50)
def rxT(s:List UInt8):List Tok×Int×Int:=if decide (4096<(s.length:Int))=true then ([],0,53) else rxF s s.length 0 []
abbrev rxI(s:List UInt8)(i:Nat)(out:List Tok):St:=⟨[(0,true,.one (.v (.string (bs s)))),(5,true,.one (.s 1000)),(6,true,.one (.v (.int .i64 (i:Int))))],[(1000,.vec 0 FW (out.map Gd))]⟩
abbrev rxJ(s:List UInt8)(i:Nat)(out:List Tok):Prop:=i<=s.length/\out.length<=i/\∃f,s.length-i<=f/\rxF s f i out=rxT s
theorem A6S{b:Bool}(h:(!b)=true):b=false:=by cases b<;>simp_all
theorem A6T{b:Bool}(h:(!b)=false):b=true:=by cases b<;>simp_all
theorem rn{a b:Bool}(h:(a&&b)=true):a=true:=by cases a<;>simp_all
theorem Al(l:List Tok)(i:Nat):(l.map Tok.r).getD i [D.v (Value.int IntKind.i64 0),D.v (Value.string (bs [])),D.v (Value.int IntKind.i64 0)]=Tok.r (l.getD i tk0):=xF l i
abbrev w64i(n:Int):Int:=IntKind.i64.wrap n
def tk(p:Pr):Tok:=p.l.getD p.i.toNat tk0
def isT(t:List UInt8)(p:Pr):Bool:=p.e==0&&decide (p.i<(p.l.length:Int))&&(tk p).k != 1&&(tk p).t==t
def okI(p:Pr):Prop:=0<=p.i/\p.i<=(p.l.length:Int)/\p.l.length<=4096
theorem mh{p:Pr}(h:okI p):0<=p.i:=h.1
def Le:List (List UInt8):=[[102,110],[118,97,114],[112,116,114],[105,102],[101,108,115,101],[119,104,105,108,101],[114,101,116,117,114,110],[97,115,115,101,114,116],[110,117,108,108],[99,101,108,108],[97,114,114,97,121]]
def KN(s:List UInt8):Bool:=Le.any (·==s)
def cS(s:List UInt8):List C:=[.v (.string (bs s))]
theorem A33{i:Nat}{x:List UInt8}(h:Le[i]?=some x):(Le.map cS).getD i [.v (.string (bs []))]=cS x:=by simp[List.getD,h]
theorem BF{A:Type}{l:List A}{i:Nat}{x:A}(h:l[i]?=some x):l.drop i=x::l.drop (i+1):=by
 obtain⟨h1,h2⟩:=List.getElem?_eq_some_iff.1 h
 rw[List.drop_eq_getElem_cons h1,h2]
def numW:List UInt8->Int->Int
 |[],n=>n
 |b::l,n=>numW l (w64i (w64i (10*n)+w64i (IntKind.u8.wrap ((b.toNat:Int)-48))))
def nameB(p:Pr):Bool:=p.e==0&&decide (p.i<(p.l.length:Int))&&(tk p).k==0&&!KN (tk p).t
def DK(c:Int)(p:Pr):Pr:=if (p.e==0)=true then { p with e:=c,at':=if decide (p.i<(p.l.length:Int))=true then (tk p).p else p.en } else p
structure Gy where
 s:List UInt8
 n:Int
structure Gl where
 c:List (List UInt8)
 a:List Gy
structure Pg where
 g:Gl
 fs:List Fn
structure Va where
 p:Bool
 n:Int
 s:List UInt8
structure Nb where
 s:List UInt8
 n:Int
structure Na where
 s:List UInt8
 l:List Int
abbrev Vs:=List (List UInt8×Va)
structure Ms where
 fuel:Int
 deep:Int
 cs:List Nb
 ar:List Na
 e:Int
 v:Int
 f:List UInt8
 al:Int
 k:Int
structure Fa where
 nm:List UInt8
 ret:Int
 P:Pg
 m:Ms
 vs:Vs
theorem od{α:Type}{es:List (List UInt8×α)}{s t:List UInt8}{v k:α}(h:AH (B5 es s v) t=some k):AH es t=some k∨k=v:=by
 induction es with
 |nil=>
  simp only[B5,AH]at h
  split at h
  .exact .inr (Option.some.inj h).symm
  cases h
 |cons p r ih=>
 obtain⟨a,b⟩:=p
 simp only[B5]at h
 split at h
 .rename_i e
  simp only[AH]at h ⊢
  split at h
  .exact .inr (Option.some.inj h).symm
  rename_i e2
  have e3:(a==t)=false:=by rw[eq_of_beq e];simpa using e2
  rw[e3];exact .inl h
 simp only[AH]at h ⊢
 split at h
 .rename_i e2
  rw[if_pos e2];exact .inl h
 rename_i e2
 rw[if_neg e2];exact ih h
def Gc:List (List UInt8)->Nat->List (List UInt8×Int)->List (List UInt8×Int)
 |[],_,es=>es
 |s::r,i,es=>Gc r (i+1) (if (AH es s).isSome=true then es else B5 es s (i:Int))
def fI(l:List (List UInt8)):List (List UInt8×Int):=Gc l 0 []
def Pg.ci(P:Pg)(s:List UInt8):Option Int:=AH (fI P.g.c) s
def Pg.ai(P:Pg)(s:List UInt8):Option Int:=AH (fI (P.g.a.map Gy.s)) s
def Pg.fi(P:Pg)(s:List UInt8):Option Int:=AH (fI (P.fs.map Fn.name)) s
def va0:Va:=⟨false,0,[]⟩
def GB(vs:Vs)(s:List UInt8):Va:=(AH vs s).getD va0
inductive Ev (α:Type) where
 |ok (a:α)
 |no (k:Int)
def Ev.b{α:Type}:Ev α->Bool
 | .ok _=>false
 | .no _=>true
def Ev.kd{α:Type}:Ev α->Int
 | .ok _=>0
 | .no k=>k
def Ev.vl{α:Type}(d:α):Ev α->α
 | .ok a=>a
 | .no _=>d
def Ms.cell(m:Ms)(i:Int):Int:=(m.cs.getD i.toNat ⟨[],0⟩).n
def vlF(P:Pg)(m:Ms)(vs:Vs)(s:List UInt8):Ev Int:=match AH vs s with
 |some v=>.ok v.n
 |none=>match P.ci s with
  |some i=>.ok (m.cell i)
  |none=>.no 4
def arF(k x y:Int):Int:=if k=2 then w64i (x+y) else if k=3 then w64i (x-y) else if k=4 then w64i (x*y) else if k=5 then w64i (x.tdiv y) else if k=6 then x.tmod y else 0
def evF(P:Pg)(m:Ms)(vs:Vs):Ex->Ev Int
 | .nil=>.ok 0
 | .mk k n s a b=>
  if k=0 then .ok n
  else if k=1 then vlF P m vs s
  else if k=7 then match evF P m vs a with
   | .ok x=>.ok (w64i (0-x))
   | .no j=>.no j
  else match evF P m vs a with
   | .no j=>.no j
   | .ok x=>match evF P m vs b with
    | .no j=>.no j
    | .ok y=>if (k=5∨k=6)/\y=0 then .no 0 else .ok (arF k x y)
def cmF(k x y:Int):Bool:=if k=0 then x==y else if k=1 then !(x==y) else if k=2 then decide (x<y) else if k=3 then decide (x<=y) else if k=4 then decide (y<x) else if k=5 then decide (y<=x) else false
def cdF(P:Pg)(m:Ms)(vs:Vs):Cd->Ev Bool
 | .nil=>.ok false
 | .mk k a b p q s=>
  if k=6 then match cdF P m vs p with
   | .ok true=>cdF P m vs q
   | .ok false=>.ok false
   | .no j=>.no j
  else if k=7 then match cdF P m vs p with
   | .ok true=>.ok true
   | .ok false=>cdF P m vs q
   | .no j=>.no j
  else if k=8 then match cdF P m vs p with
   | .ok x=>.ok (!x)
   | .no j=>.no j
  else if k=9 then .ok ((GB vs s).s==[])
  else match evF P m vs a with
   | .no j=>.no j
   | .ok x=>match evF P m vs b with
    | .no j=>.no j
    | .ok y=>.ok (cmF k x y)
def Fj(P:Pg)(m:Ms)(vs:Vs):List Ar->Ev (List Va)
 |[]=>.ok []
 |a::l=>if a.p=true then match Fj P m vs l with
   | .ok r=>.ok (⟨true,0,(GB vs a.s).s⟩::r)
   | .no j=>.no j
  else match evF P m vs a.e with
   | .no j=>.no j
   | .ok x=>match Fj P m vs l with
    | .ok r=>.ok (⟨false,x,[]⟩::r)
    | .no j=>.no j
def Dw:List Vr->List Va->Bool
 |[],[]=>true
 |v::l,a::r=>(v.p==a.p)&&Dw l r
 |_,_=>false
def vsL:List Vr->Vs->Vs
 |[],vs=>vs
 |v::l,vs=>vsL l (B5 vs v.s ⟨v.p,0,[]⟩)
def vsP:List Vr->List Va->Vs->Vs
 |v::l,a::r,vs=>vsP l r (B5 vs v.s (if v.p=true then ⟨true,0,a.s⟩ else ⟨false,a.n,[]⟩))
 |_,_,vs=>vs
def Ms.brk(m:Ms)(nm:List UInt8)(al k:Int):Ms:={ m with e:=1,v:=0,f:=nm,al:=al,k:=k }
def Ms.exh(m:Ms):Ms:={ m with e:=2,v:=0,f:=[],al:=0,k:=0 }
def Ms.out(m:Ms):Bool:=decide (m.fuel<1)
def Ms.spd(m:Ms):Ms:={ m with fuel:=w64i (m.fuel-1) }
def Ms.set(m:Ms)(i:Int)(v:Int):Ms:={ m with cs:=m.cs.set i.toNat ⟨(m.cs.getD i.toNat ⟨[],0⟩).s,v⟩ }
def Ms.arr(m:Ms)(i:Int):List Int:=(m.ar.getD i.toNat ⟨[],[]⟩).l
def Ms.put(m:Ms)(i j:Int)(v:Int):Ms:={ m with ar:=m.ar.set i.toNat ⟨(m.ar.getD i.toNat ⟨[],[]⟩).s,(m.arr i).set j.toNat v⟩ }
def Fa.dead(q:Fa)(s:Sm):Fa:={ q with m:={ q.m with cs:=[⟨[],0⟩],ar:=[⟨[],[0]⟩] },vs:=B5 q.vs s.x va0 }
def evA{α:Type}(q:Fa)(s:Sm):Ev α->Fa
 | .ok _=>q
 | .no _=>q.dead s
def evW{α:Type}(q:Fa)(s:Sm):Ev α->Fa
 | .ok _=>q
 | .no k=>{ q with m:=q.m.brk q.nm s.no k }
structure okC(P:Pg)(m:Ms):Prop where
 c:m.cs.length=P.g.c.length
 a:m.ar.length=P.g.a.length
 n:P.g.c.length<=1000000
 k:P.g.a.length<=1000000
theorem kZ:∀(l:List (List UInt8)) (i:Nat) (es:List (List UInt8×Int)) (s:List UInt8) (j:Int),(∀t k,AH es t=some k->0<=k/\k<(i:Int))->AH (Gc l i es) s=some j->0<=j/\j<((i+l.length:Nat):Int)
 |[],i,es,s,j,h,hj=>by simpa using h s j hj
 |x::r,i,es,s,j,h,hj=>by
  simp only[Gc]at hj
  have ih:=kZ r (i+1) _ s j (λt k hk=>?_) hj
  .simp only[List.length_cons];omega
  split at hk
  .have:=h t k hk;omega
  rcases od hk with hk|hk
  .have:=h t k hk;omega
  omega
theorem WA{l:List (List UInt8)}{s:List UInt8}{j:Int}(h:AH (fI l) s=some j):0<=j/\j<(l.length:Int):=by
 have:=kZ l 0 [] s j (λt k hk=>by cases hk) h
 simpa using this
theorem Pg.ci_lt{P:Pg}{m:Ms}{s:List UInt8}{i:Int}(hc:okC P m)(h:P.ci s=some i):0<=i/\i<(m.cs.length:Int):=by
 rw[hc.c];exact WA h
theorem Pg.ai_lt{P:Pg}{m:Ms}{s:List UInt8}{i:Int}(hc:okC P m)(h:P.ai s=some i):0<=i/\i<(m.ar.length:Int):=by
 rw[hc.a,<- length_map (f:=Gy.s)];exact WA h
theorem Pg.fi_lt{P:Pg}{s:List UInt8}{i:Int}(h:P.fi s=some i):0<=i/\i<(P.fs.length:Int):=by
 rw[<- length_map (f:=Fn.name)];exact WA h
structure Ro where
 b:Bool
 t:Bool
 q:Fa
def Fa.brk(q:Fa)(s:Sm)(k:Int):Ro:=⟨true,false,{ q with m:=q.m.brk q.nm s.no k }⟩
def Fa.go(q:Fa):Ro:=⟨false,false,q⟩
def Fk(q:Fa)(s:Sm)(v:Int):Ro:=match AH q.vs s.x with
 |some _=>Fa.go { q with vs:=B5 q.vs s.x ⟨false,v,[]⟩ }
 |none=>match q.P.ci s.x with
  |some i=>Fa.go { q with m:=q.m.set i v }
  |none=>q.brk s 4
def GC(q:Fa)(nm:List UInt8):Ev Int:=if ((GB q.vs nm).s==[])=true then .no 2 else match q.P.ci (GB q.vs nm).s with
 |some i=>.ok i
 |none=>.no 4
def FR(q:Fa)(s:Sm)(i:Int):Ev Int:=match q.P.ai s.y with
 |none=>.no 4
 |some k=>if i<0∨((q.m.arr k).length:Int)<=i then .no 1 else .ok k
def blF(st:Sm->Fa->Ro):List Sm->Fa->Ro
 |[],q=>q.go
 |s::l,q=>if (st s q).b=true∨(st s q).t=true then st s q else blF st l (st s q).q
def IX(st:Sm->Fa->Ro)(P:Pg)(g:Fn)(a:List Va)(m:Ms):Bool×Int×Ms:=
 if 200<=m.deep then (true,0,m.exh)
 else
  let r:=blF st g.body ⟨g.name,0,P,{ m with deep:=w64i (m.deep+1) },vsP g.ps a (vsL g.ls [])⟩
  if r.b=true then (true,0,r.q.m) else (false,r.q.ret,{ r.q.m with deep:=w64i (r.q.m.deep-1) })
def lpF(bl:Fa->Ro)(s:Sm):Nat->Fa->Ro
 |0,q=>⟨true,false,{ q with m:=q.m.exh }⟩
 |k+1,q=>
  if q.m.out=true then ⟨true,false,{ q with m:=q.m.exh }⟩
  else match cdF q.P q.m.spd q.vs s.cd with
   | .no j=>Fa.brk { q with m:=q.m.spd } s j
   | .ok false=>Fa.go { q with m:=q.m.spd }
   | .ok true=>
    let r:=bl { q with m:=q.m.spd }
    if r.b=true∨r.t=true then r else lpF bl s k r.q
def RO(s:Sm)(q:Fa)(r:Bool×Int×Ms):Ro:=
 if r.1=true then ⟨true,false,{ q with m:=r.2.2 }⟩
 else if (s.x==[])=true then Fa.go { q with m:=r.2.2 }
 else Fk { q with m:=r.2.2 } s r.2.1
def GQ(st:Sm->Fa->Ro)(s:Sm)(q:Fa):Ro:=match Fj q.P q.m q.vs s.ar with
 | .no j=>q.brk s j
 | .ok a=>match q.P.fi s.y with
  |none=>q.brk s 4
  |some i=>
   let g:=q.P.fs.getD i.toNat ⟨[],[],[],[]⟩
   if Dw g.ps a=false then q.brk s 4
   else RO s q (IX st q.P g a q.m)
def smF(st:Sm->Fa->Ro)(s:Sm)(q:Fa):Ro:=
 if s.k=0 then match evF q.P q.m q.vs s.e with
  | .no j=>q.brk s j
  | .ok v=>Fk q s v
 else if s.k=1 then match q.P.ci s.y with
  |none=>q.brk s 4
  |some _=>Fa.go { q with vs:=B5 q.vs s.x ⟨true,0,s.y⟩ }
 else if s.k=2 then Fa.go { q with vs:=B5 q.vs s.x ⟨true,0,(GB q.vs s.y).s⟩ }
 else if s.k=3 then Fa.go { q with vs:=B5 q.vs s.x ⟨true,0,[]⟩ }
 else if s.k=4 then match GC q s.y with
  | .no j=>q.brk s j
  | .ok i=>Fk q s (q.m.cell i)
 else if s.k=5 then match evF q.P q.m q.vs s.e with
  | .no j=>q.brk s j
  | .ok v=>match GC q s.x with
   | .no j=>q.brk s j
   | .ok i=>Fa.go { q with m:=q.m.set i v }
 else if s.k=6 then match evF q.P q.m q.vs s.e with
  | .no j=>q.brk s j
  | .ok i=>match FR q s i with
   | .no j=>q.brk s j
   | .ok k=>Fk q s ((q.m.arr k).getD i.toNat 0)
 else if s.k=7 then match evF q.P q.m q.vs s.e with
  | .no j=>q.brk s j
  | .ok i=>match evF q.P q.m q.vs s.f with
   | .no j=>q.brk s j
   | .ok v=>match FR q s i with
    | .no j=>q.brk s j
    | .ok k=>Fa.go { q with m:=q.m.put k i v }
 else if s.k=8 then GQ st s q
 else if s.k=9 then match evF q.P q.m q.vs s.e with
  | .no j=>q.brk s j
  | .ok v=>⟨false,true,{ q with ret:=v }⟩
 else if s.k=10 then match cdF q.P q.m q.vs s.cd with
  | .no j=>q.brk s j
  | .ok true=>blF st s.th q
  | .ok false=>blF st s.el q
 else if s.k=12 then match cdF q.P q.m q.vs s.cd with
  | .no j=>q.brk s j
  | .ok true=>q.go
  | .ok false=>q.brk s 3
 else q.go
def stF:Nat->Sm->Fa->Ro
 |0,_,q=>⟨true,false,{ q with m:=q.m.exh }⟩
 |n+1,s,q=>
  if s.k=11 then lpF (blF (stF n) s.th) s (n+1) q
  else if q.m.out=true then ⟨true,false,{ q with m:=q.m.exh }⟩
  else smF (stF n) s { q with m:=q.m.spd }
def naL(x:Na):Nat:=x.l.length
structure Kq(q r:Fa):Prop where
 P:r.P=q.P
 c:r.m.cs.length=q.m.cs.length
 a:r.m.ar.map naL=q.m.ar.map naL
 l:0<=r.m.fuel
 u:r.m.fuel<=q.m.fuel
theorem Kq.tr{q r t:Fa}(h:Kq q r)(k:Kq r t):Kq q t:=⟨k.P.trans h.P,k.c.trans h.c,k.a.trans h.a,k.l,by have:=k.u;have:=h.u;omega⟩
theorem Kq.of{q r:Fa}(h:0<=q.m.fuel)(h1:r.P=q.P)(h2:r.m.cs=q.m.cs)(h3:r.m.ar=q.m.ar)(h4:r.m.fuel=q.m.fuel):Kq q r:=⟨h1,by rw[h2],by rw[h3],by omega,by omega⟩
theorem de(m:Ms)(i j:Int)(v:Int):(m.put i j v).ar.map naL=m.ar.map naL:=by
 show (m.ar.set i.toNat ⟨(m.ar.getD i.toNat ⟨[],[]⟩).s,(m.arr i).set j.toNat v⟩).map naL=_
 rw[List.map_set]
 show (m.ar.map naL).set i.toNat ((m.arr i).set j.toNat v).length=_
 rw[List.length_set]
 apply List.ext_getElem?
 intro k
 rw[List.getElem?_set]
 split
 .rename_i hk
  subst hk
  split
  .rename_i hl
   rw[length_map]at hl
   rw[List.getElem?_map,getElem?_eq_getElem hl]
   simp[Ms.arr,naL,List.getD,hl]
  simp_all
 rfl
theorem Vl{q:Fa}{s:Sm}{v:Int}(h:0<=q.m.fuel):Kq q (Fk q s v).q:=by
 unfold Fk
 split
 .exact Kq.of h rfl rfl rfl rfl
 split
 .exact⟨rfl,by show (q.m.cs.set _ _).length=_;rw[List.length_set],rfl,h,Int.le_refl _⟩
 exact Kq.of h rfl rfl rfl rfl
def KqS(st:Sm->Fa->Ro):Prop:=∀s q,0<=q.m.fuel->q.m.fuel<=1000000000->Kq q (st s q).q
theorem N2{st:Sm->Fa->Ro}(h:KqS st):∀(l:List Sm) (q:Fa),0<=q.m.fuel->q.m.fuel<=1000000000->Kq q (blF st l q).q
 |[],q,h0,_=>Kq.of h0 rfl rfl rfl rfl
 |s::l,q,h0,h1=>by
  have k:=h s q h0 h1
  simp only[blF]
  split
  .exact k
  exact k.tr (N2 h l _ k.l (by have:=k.u;omega))
theorem ff{m:Ms}(h1:m.out=false)(h0:0<=m.fuel)(h2:m.fuel<=1000000000):m.spd.fuel=m.fuel-1/\1<=m.fuel:=by
 have:¬m.fuel<1:=of_decide_eq_false h1
 refine⟨?_,by omega⟩
 show w64i (m.fuel-1)=_
 unfold w64i;rw[wrap_i64 (by omega) (by omega)]
theorem Vm{q:Fa}(h1:q.m.out=false)(h0:0<=q.m.fuel)(h2:q.m.fuel<=1000000000):Kq q { q with m:=q.m.spd }:=by
 obtain⟨a,b⟩:=ff h1 h0 h2
 exact⟨rfl,rfl,rfl,by show 0<=q.m.spd.fuel;omega,by show q.m.spd.fuel<=_;omega⟩
theorem qv{bl:Fa->Ro}{s:Sm}(h:∀q,0<=q.m.fuel->q.m.fuel<=1000000000->Kq q (bl q).q):∀(k:Nat) (q:Fa),0<=q.m.fuel->q.m.fuel<=1000000000->Kq q (lpF bl s k q).q
 |0,q,h0,_=>Kq.of h0 rfl rfl rfl rfl
 |k+1,q,h0,h1=>by
  simp only[lpF]
  cases ho:q.m.out with
  |true=>exact Kq.of h0 rfl rfl rfl rfl
  |false=>
  have ks:=Vm ho h0 h1
  simp only[jB,if_false]
  cases cdF q.P q.m.spd q.vs s.cd with
  |no j=>exact ks.tr (Kq.of ks.l rfl rfl rfl rfl)
  |ok x=>cases x with
   |false=>exact ks
   |true=>
    have kb:=h { q with m:=q.m.spd } ks.l (by have:=ks.u;omega)
    show Kq q (if _ then _ else _:Ro).q
    split
    .exact ks.tr kb
    .exact(ks.tr kb).tr (qv h k _ kb.l (by have:=kb.u;have:=ks.u;omega))
theorem Vn{st:Sm->Fa->Ro}(h:KqS st)(q:Fa)(g:Fn)(a:List Va)(h0:0<=q.m.fuel)(h1:q.m.fuel<=1000000000):Kq q { q with m:=(IX st q.P g a q.m).2.2 }:=by
 unfold IX
 split
 .exact Kq.of h0 rfl rfl rfl rfl
 have k:=N2 h g.body ⟨g.name,0,q.P,{ q.m with deep:=w64i (q.m.deep+1) },vsP g.ps a (vsL g.ls [])⟩ h0 h1
 show Kq q { q with m:=(if _ then _ else _:Bool×Int×Ms).2.2 }
 split
 .exact⟨rfl,k.c,k.a,k.l,k.u⟩
 exact⟨rfl,k.c,k.a,k.l,k.u⟩
theorem zL{st:Sm->Fa->Ro}(h:KqS st)(s:Sm)(q:Fa)(h0:0<=q.m.fuel)(h1:q.m.fuel<=1000000000):Kq q (GQ st s q).q:=by
 unfold GQ
 split
 .exact Kq.of h0 rfl rfl rfl rfl
 split
 .exact Kq.of h0 rfl rfl rfl rfl
 dsimp only
 split
 .exact Kq.of h0 rfl rfl rfl rfl
 rename_i a _ _ i _ _
 have k:=Vn h q (q.P.fs.getD i.toNat ⟨[],[],[],[]⟩) a h0 h1
 unfold RO
 split
 .exact k
 split
 .exact k
 exact k.tr (Vl k.l)
theorem Ij{c:Prop}[Decidable c]{a b:Ro}{q:Fa}(h1:Kq q a.q)(h2:Kq q b.q):Kq q (if c then a else b).q:=by grind
theorem A4C{st:Sm->Fa->Ro}(h:KqS st)(s:Sm)(q:Fa)(h0:0<=q.m.fuel)(h1:q.m.fuel<=1000000000):Kq q (smF st s q).q:=by
 have r:∀{t:Fa},t.P=q.P->t.m.cs=q.m.cs->t.m.ar=q.m.ar->t.m.fuel=q.m.fuel->Kq q t:=λa b c d=>Kq.of h0 a b c d
 unfold smF
 refine Ij ?_ (Ij ?_ (Ij ?_ (Ij ?_ (Ij ?_ (Ij ?_ (Ij ?_ (Ij ?_ (Ij ?_ (Ij ?_ (Ij ?_ (Ij ?_ ?_)))))))))))
 .cases evF q.P q.m q.vs s.e with
  |no j=>exact r rfl rfl rfl rfl
  |ok v=>exact Vl h0
 .cases q.P.ci s.y with
  |none=>exact r rfl rfl rfl rfl
  |some i=>exact r rfl rfl rfl rfl
 .exact r rfl rfl rfl rfl
 .exact r rfl rfl rfl rfl
 .cases GC q s.y with
  |no j=>exact r rfl rfl rfl rfl
  |ok i=>exact Vl h0
 .cases evF q.P q.m q.vs s.e with
  |no j=>exact r rfl rfl rfl rfl
  |ok v=>
  show Kq q (match GC q s.x with| .no j=>q.brk s j| .ok i=>Fa.go { q with m:=q.m.set i v }).q
  cases GC q s.x with
  |no j=>exact r rfl rfl rfl rfl
  |ok i=>exact⟨rfl,by show (q.m.cs.set _ _).length=_;rw[List.length_set],rfl,h0,Int.le_refl _⟩
 .cases evF q.P q.m q.vs s.e with
  |no j=>exact r rfl rfl rfl rfl
  |ok i=>
  show Kq q (match FR q s i with| .no j=>q.brk s j| .ok k=>Fk q s ((q.m.arr k).getD i.toNat 0)).q
  cases FR q s i with
  |no j=>exact r rfl rfl rfl rfl
  |ok k=>exact Vl h0
 .cases evF q.P q.m q.vs s.e with
  |no j=>exact r rfl rfl rfl rfl
  |ok i=>
  show Kq q (match evF q.P q.m q.vs s.f with| .no j=>q.brk s j| .ok v=>match FR q s i with| .no j=>q.brk s j| .ok k=>Fa.go { q with m:=q.m.put k i v }).q
  cases evF q.P q.m q.vs s.f with
  |no j=>exact r rfl rfl rfl rfl
  |ok v=>
  show Kq q (match FR q s i with| .no j=>q.brk s j| .ok k=>Fa.go { q with m:=q.m.put k i v }).q
  cases FR q s i with
  |no j=>exact r rfl rfl rfl rfl
  |ok k=>exact⟨rfl,rfl,de _ _ _ _,h0,Int.le_refl _⟩
 .exact zL h s q h0 h1
 .cases evF q.P q.m q.vs s.e with
  |no j=>exact r rfl rfl rfl rfl
  |ok v=>simp_all
 .cases cdF q.P q.m q.vs s.cd with
  |no j=>exact r rfl rfl rfl rfl
  |ok x=>cases x with
   |true=>exact N2 h s.th q h0 h1
   |false=>exact N2 h s.el q h0 h1
 .cases cdF q.P q.m q.vs s.cd with
  |no j=>exact r rfl rfl rfl rfl
  |ok x=>cases x with
   |true=>exact r rfl rfl rfl rfl
   |false=>exact r rfl rfl rfl rfl
 exact r rfl rfl rfl rfl
theorem ME:∀n,KqS (stF n)
 |0=>λs q h0 _=>Kq.of h0 rfl rfl rfl rfl
 |n+1=>λs q h0 h1=>by
  have ih:=ME n
  simp only[stF]
  split
  .exact qv (λq a b=>N2 ih s.th q a b) (n+1) q h0 h1
  cases ho:q.m.out with
  |true=>exact Kq.of h0 rfl rfl rfl rfl
  |false=>
  have ks:=Vm ho h0 h1
  simp only[jB,if_false]
  exact ks.tr (A4C ih s { q with m:=q.m.spd } ks.l (by have:=ks.u;omega))
structure okPg(N:Nat)(P:Pg):Prop where
 l:P.fs.length<=1000000
 f:∀f∈P.fs,okF f/\∃m,okB N m f.body
structure okMs(N:Nat)(n:Int)(q:Fa):Prop where
 p:okPg N q.P
 c:okC q.P q.m
 a:∀x∈q.m.ar,x.l.length<=1000000000
 l:0<=q.m.fuel
 u:q.m.fuel<n
theorem okMs.kq{N:Nat}{n k:Int}{q r:Fa}(h:okMs N n q)(e:Kq q r)(hu:r.m.fuel<k):okMs N k r:=by
 refine⟨by rw[e.P];exact h.p,⟨by rw[e.c,e.P];exact h.c.c,?_,by rw[e.P];exact h.c.n,by rw[e.P];exact h.c.k⟩,λx hx=>?_,e.l,hu⟩
 .have:=congrArg List.length e.a
  rw[length_map,length_map]at this
  rw[this,e.P];exact h.c.a
 have h1:naL x∈r.m.ar.map naL:=List.mem_map.2 ⟨x,hx,rfl⟩
 rw[e.a]at h1
 obtain⟨y,hy,h2⟩:=List.mem_map.1 h1
 have:=h.a y hy
 show naL x<=_
 rw[<- h2];exact this
end Go.Proofs.YtapedeoheilnnaaGreat
namespace Go.Sy
open Go Go.RowKit
def sC(k:Nat):C->C
 | .p _ x y=>.p k x y
 |c=>c
def sR(k:Nat)(es:List (List C)):List (List C):=es.map λr=>r.map (sC k)
def sI:Nat->Nat->List (List C)->List (List C)
 |0,k,es=>sR k es
 |_+1,_,es=>es
def cOK(i:Nat)(c:C):Prop:=c.names=[]∨i=0/\∃x y,c= .p 0 x y
structure ArgN(A:Type) where
 d:Hp->List SV->Option (A×List Nat)
 args:A->List SV
 mem:A->List MV
 h:∀(H:Hp) (l:List SV) (a:A) (ks:List Nat),d H l=some (a,ks)->(args a).length=l.length/\ks.length=(mem a).length/\∀(i k:Nat),ks[i]?=some k->∃u z m,H k=some (.vec u z (sI i k m.2))/\(mem a)[i]?=some m/\z.length=m.1.length/\(zT m.1=none∨zT m.1=zT z)
 ha:∀(H:Hp) (l:List SV) (a:A) (ks:List Nat) (j:Nat) (v v':SV) (x:Value) {hh:Bf} {fz:Nat->Prop} {lab lab':Lab} {I I':Nm} {H0 H':Hp},d H l=some (a,ks)->l[j]?=some v->(args a)[j]?=some v'->(∀i k,ks[i]?=some k->I' i=I k)->Ap hh fz lab I H0 v x->Ap hh fz lab' I' H' v' x
 n:∀a (i:Nat) m,(mem a)[i]?=some m->∀r∈m.2,∀c∈r,cOK i c
 an:∀a,∀v∈args a,∀k∈v.names,k<(mem a).length
 l:∀(H H':Hp) (v:List SV) (a:A) (ks:List Nat),d H v=some (a,ks)->(∀k∈ks,H' k=H k)->d H' v=some (a,ks)
section
variable {P:Program}
end
abbrev T0:World->Prop:=λ_=>True
structure RowB(B:Type) where
 z:List C
 d:Nat->List C->Option B
 e:B->List C
 h:∀k r b,d k r=some b->r=(e b).map (sC k)
 n:∀b,∀c∈e b,cOK 0 c
open Go Go.RowKit
section
variable {X:Ctx}{w0 w:World}{I:Nm}{lab:Lab}{fz:Nat->Prop}{H:Hp}
end
section
variable {P:Program}
end
open Go Go.RowKit
def Q5(P:Program)(f:FuncId){A:Type}(args:A->List SV)(mem:A->List MV)(Cd:A->Prop)(bad:A->Bool)(res:A->SV)(mem':A->List (Option MV)):Prop:=
 ∀(a:A) (w:World) (M:Nat->Prop) (I:Nm) (lab:Lab) (fz:Nat->Prop) (xs:List Value),Cd a->AtW (mX M fz I (mem a).length) w I lab fz (lkp (GE 0 (mem a))) w->xs.length=(args a).length->
  (∀(j:Nat) (v:SV) (x:Value),(args a)[j]?=some v->xs[j]?=some x->Ap (hp w) fz lab I (lkp (GE 0 (mem a))) v x)->
  Calls P f xs.toArray w (λen w'=>(bad a=false/\LZ w M fz I (mem a).length (mem' a) (res a) en w')∨(bad a=true/\∃ch,en= .panicked ch/\b7 ch/\∃I' lab' fz',AtW (mX M fz I (mem a).length) w I' lab' fz' (lkp (memO 0 (mem' a))) w'))
theorem dP{X:Ctx}{w0 w:World}{I:Nm}{lab:Lab}{fz:Nat->Prop}{H:Hp}(hA:AtW X w0 I lab fz H w){t:Nat}(ht:H t=none){p:Prop}(hp':p):AtW X w0 I lab fz (upd H t (.fact p)) w:=by
 refine⟨λk ch hk=>?_,λk ch hk=>?_,hA.own,hA.fzl,hA.fzo,hA.kept,λq hq=>⟨?_,(hA.fix q hq).2⟩⟩
 .by_cases e:k=t
  .subst e;rw[BM]at hk;simp only[jS]at hk;subst hk;exact hp'
  rw[Bm _ _ e]at hk;exact hA.h k ch hk
 .exact AAf
 exact Bc (l:=[q.1]) (by intro n hn;simp at hn;subst hn;exact(hA.fix q hq).1) _ _ q.1 (by simp)
theorem A3z{α:Type}(f:Nat->Option α)(k:Nat)(x:α)(j:Nat):upd f k x j=if j=k then some x else f j:=rfl
theorem JH:∀(u v:List (Nat×Ch)) (H:Hp),updH H (u++v)=updH (updH H u) v
 |[],_,_=>rfl
 |(k,c)::u,v,H=>by simp only[List.cons_append,updH];exact JH u v _
theorem Ww:∀{n:Nat} {m:List (Option MV)},m.length=n->Ri n m=true
 |0,[],_=>rfl
 |n+1,_::r,h=>by simp only[Ri];exact Ww (by simpa using h)
theorem Wx{n:Nat}{f:Nat->Nat}{c:C}(h:J8 n c=true):F3 (GF f c)=true:=by
 cases c<;>first|rfl|(simp[J8]at h)
theorem tf{n:Nat}{f:Nat->Nat}{v:SV}(h:Rj n v=true):LX (Pi f v)=true:=by
 have key:∀{l:List C},l.all (J8 n)=true->(l.map (GF f)).all F3=true:=by
  intro l hl
  rw[List.all_map]
  exact List.all_eq_true.2 λc hc=>Wx (List.all_eq_true.1 hl c hc)
 cases v with
 |one c=>exact Wx h
 |agg l=>exact key h
 |tup l=>
 show (List.map _ l).all _=true
 rw[List.all_map]
 refine List.all_eq_true.2 λp hp'=>?_
 have:=List.all_eq_true.1 h p hp'
 cases p with
 |inl c=>exact Wx this
 |inr l=>exact key this
def Wy(X:Ctx){A:Type}(o:Option (A×List Nat))(t:Nat)(H:Hp)(Cd:A->Prop)(bad:A->Bool)(res:A->SV)(mem':A->List (Option MV)):Res:=
 match o with
 |some (a,ks)=>some (Cd a/\ndB ks=true/\(bad a=true->pnO X.pn (updH H (updM H t ks (mem' a)))),⟨Pi (nmM ks t) (res a),updM H t ks (mem' a)++[(t,.fact (bad a=false))]⟩,t::(ks++pnN X.pn))
 |none=>none
theorem jH(X:Ctx){A:Type}(a:A)(ks:List Nat)(t:Nat)(H:Hp)(Cd:A->Prop)(bad:A->Bool)(res:A->SV)(mem':A->List (Option MV)):Wy X (some (a,ks)) t H Cd bad res mem'=some (Cd a/\ndB ks=true/\(bad a=true->pnO X.pn (updH H (updM H t ks (mem' a)))),⟨Pi (nmM ks t) (res a),updM H t ks (mem' a)++[(t,.fact (bad a=false))]⟩,t::(ks++pnN X.pn)):=rfl
theorem YZ(H:Hp)(t:Nat):∀(ks:List Nat) (m:List (Option MV)),m.length=ks.length->∀p∈updM H t ks m,p.1∈ks
 |[],[],_,p,hp=>by simp[updM]at hp
 |k::ks,o::m,h,p,hp=>by
  simp only[updM,List.mem_cons]at hp
  rcases hp with rfl|hp
  .simp_all
  exact mem_cons_of_mem _ (YZ H t ks m (by simpa using h) p hp)
section
variable {P:Program}
def Q6{X:Ctx}{w0:World}(f:FuncId)(call:∀(args:Array Value) (w:World),(callFunc f args).run P w= .ok (.enter f args) w){A:Type}(am:ArgM A)(Cd:A->Prop)(bad:A->Bool)(res:A->SV)(mem':A->List (Option MV))
  (hl:∀a,Cd a->(mem' a).length=(am.mem a).length) (ho:∀a,Cd a->Rj (mem' a).length (res a)=true) (hn:∀a,Cd a->∀q,some q∈mem' a->∀r∈q.2,∀c∈r,c.names=[]) (ok:Q5 P f (am.args 0) am.mem Cd bad res mem'):Spec P X w0 where
 f:=f
 call:=call
 fn t args H:=Wy X (am.d H args) t H Cd bad res mem'
 ok w I lab fz H t args xs c e fp hA ht h hc hd hlx hx:=by
  unfold Wy at h
  split at h
  .rename_i a ks ha
   simp only[jS,jP]at h
   obtain⟨rfl,rfl,rfl⟩:=h
   obtain⟨hCd,hnd,hbad⟩:=hc
   have hlen:=hl a hCd
   have hlm:Ri (am.mem a).length (mem' a)=true:=Ww hlen
   obtain⟨g1,g2,g3⟩:=am.h H args a ks ha
   have htk:t∉ks:=by
    intro hm
    obtain⟨i,hi⟩:=List.mem_iff_getElem?.1 hm
    obtain⟨u,z,m,e1,_⟩:=g3 i t hi
    rw[ht]at e1;cases e1
   obtain⟨Mc,Ic,labc,hAc,hlen',hargs,key⟩:=rY am hA ht ha hnd hd hlx hx hlm (hn a hCd)
   have hget:=Oe H t ks (mem' a) H
   rw[<- g2]at hlm
   have htn:updH H (updM H t ks (mem' a)) t=none:=by
    rw[hget t hnd htk hlm]
    have hp':pos ks t=none:=by
     cases hp':pos ks t with
     |none=>rfl
     |some j=>exact absurd (List.mem_of_getElem? (FG hp')) htk
    rw[hp',List.getElem?_eq_none (by omega:(mem' a).length<=ks.length)]
    simp[ht]
   refine(ok a w Mc Ic labc fz xs hCd hAc hlen' hargs).mono ?_
   rintro en w' (⟨hb,hm⟩|⟨hb,ch,rfl,hch,I',lab',fz',hB⟩)
   .obtain⟨x,rfl,I2,lab2,fz2,q1,q2,q3⟩:=key (res a) (ho a hCd) en w' hm
    refine .inl ⟨x,rfl,I2,lab2,fz2,?_,λs hs=>?_,q3.z,q3.n,λk u p y hk hv=>?_⟩
    .rw[JH];exact dP q1 htn hb
    .simp only[jS]at hs
     subst hs
     exact Nv (tf (ho a hCd)) (q2 _ rfl)
    .have hkt:k≠t:=by rintro rfl;rw[ht]at hk;cases hk
     have h0:=q3.w k u p y hk hv
     refine⟨h0.1,λu' z es hk'=>h0.2 u' z es ?_⟩
     rw[JH]at hk'
     simpa only[updH,Bm _ _ hkt] using hk'
   .obtain⟨x,_,I2,lab2,fz2,q1,_,_⟩:=key (.one (.v (.bool false))) rfl (.returned (.bool false)) w' ⟨.bool false,I',lab',fz',rfl,hB,Hg rfl⟩
    exact .inr ⟨ch,rfl,hch,I2,lab2,fz2,_,q1,hbad hb⟩
  .cases h
 dom t args H c e fp ht hc h hd:=by
  unfold Wy at h
  split at h
  .rename_i a ks ha
   simp only[jS,jP]at h
   obtain⟨rfl,rfl,rfl⟩:=h
   obtain⟨hCd,hnd,_⟩:=hc
   obtain⟨g1,g2,g3⟩:=am.h H args a ks ha
   have hlen:=hl a hCd
   have hlm:Ri ks.length (mem' a)=true:=Ww (by omega)
   have htk:t∉ks:=by
    intro hm
    obtain⟨i,hi⟩:=List.mem_iff_getElem?.1 hm
    obtain⟨u,z,m,e1,_⟩:=g3 i t hi
    rw[ht]at e1;cases e1
   refine⟨λk hk=>?_,λp hp'=>?_⟩
   .obtain⟨i,hi,rfl⟩:=La (ho a hCd) hk
    have h1:i<ks.length:=by omega
    have hk:ks[i]?=some ks[i]:=getElem?_eq_getElem h1
    have e1:nmM ks t i=ks[i]:=by simp only[nmM,hk,Option.getD_some]
    rw[JH]
    refine Bc (l:=[nmM ks t i]) (λn hn'=>?_) _ _ _ (by simp)
    simp only[List.mem_singleton]at hn'
    subst hn'
    rw[Oe H t ks (mem' a) H _ hnd htk hlm,e1,Od hnd hk];rfl
   .rcases List.mem_append.1 hp' with hp'|hp'
    .exact mem_cons_of_mem _ (List.mem_append_left _ (YZ H t ks _ (by omega) p hp'))
    .simp_all
  .cases h
 loc t args H H' c e fp h hf:=by
  unfold Wy at h ⊢
  split at h
  .rename_i a ks ha
   simp only[jS,jP]at h
   obtain⟨rfl,rfl,rfl⟩:=h
   have h1:=am.l H H' args a ks ha λk hk=>hf k (mem_cons_of_mem _ (List.mem_append_left _ hk))
   rw[h1]
   have h2:∀(ks:List Nat) (m:List (Option MV)),(∀k∈ks,H' k=H k)->updM H' t ks m=updM H t ks m:=by
    intro ks
    induction ks with
    |nil=>intro m _;match m with
     |[]=>rfl
     |none::_=>rfl
     |some _::_=>rfl
    |cons k r ih=>
     intro m hk
     match m with
     |[]=>rfl
     |o::m=>simp only[updM];rw[hk k (List.mem_cons_self ..),ih m λj hj=>hk j (mem_cons_of_mem _ hj)]
   have h3:=h2 ks (mem' a) λk hk=>hf k (mem_cons_of_mem _ (List.mem_append_left _ hk))
   have h4:pnO X.pn (updH H' (updM H t ks (mem' a)))=pnO X.pn (updH H (updM H t ks (mem' a))):=Sd λk hk=>RY _ (hf k (mem_cons_of_mem _ (List.mem_append_right _ hk)))
   simp only[h3,h4]
  .cases h
theorem nI{X:Ctx}{w0:World}{A:Type}(f call)(am:ArgM A)(Cd bad res mem' hl ho hn ok):(Q6 (P:=P) (X:=X) (w0:=w0) f call am Cd bad res mem' hl ho hn ok).f=f:=rfl
theorem jI{X:Ctx}{w0:World}{A:Type}(f call)(am:ArgM A)(Cd bad res mem' hl ho hn ok)(t:Nat)(args:List SV)(H:Hp):(Q6 (P:=P) (X:=X) (w0:=w0) f call am Cd bad res mem' hl ho hn ok).fn t args H=Wy X (am.d H args) t H Cd bad res mem':=rfl
end
open Go Go.RowKit
def nJ(b:Bool)(q:MV):Option (List (Nat×List C×List (List C))):=if b=true then some [(0,q)] else none
theorem GV(q:MV):nJ true q=some [(0,q)]:=rfl
theorem GW(q:MV):nJ false q=none:=rfl
abbrev mXP(M fz:Nat->Prop)(I:Nm)(n:Nat)(b:Bool)(q:MV):Ctx:=⟨M,fz,memF I 0 n,nJ b q,[],[]⟩
theorem Ve{X X':Ctx}{w0 w:World}{I:Nm}{lab:Lab}{fz:Nat->Prop}{H:Hp}(hM:X'.M=X.M)(hZ:X'.Z=X.Z)(hF:X'.F=X.F)(h:AtW X w0 I lab fz H w):AtW X' w0 I lab fz H w:=
 ⟨h.h,h.wf,by rw[hM];exact h.own,h.fzl,by rw[hM,hZ];exact h.fzo,by rw[hM];exact h.kept,by rw[hF];exact h.fix⟩
def fZ(b:Bool)(r:SV)(m':List (Option MV)):St->List SV->Prop:=λs vs=>b=false/\VY r m' s vs
theorem Lk(b:Bool)(r:SV)(m':List (Option MV))(s:St)(vs:List SV):fZ b r m' s vs=(b=false/\VY r m' s vs):=rfl
section
variable {P:Program}
theorem N0{f:FuncId}{fn:Func}{c:Code}(hf:P.funcs[f]?=some fn)(hb:fn.body=some c)(m0:MV)(w:World)(M:Nat->Prop)(I:Nm)(lab:Lab)(fz:Nat->Prop)(bad:Bool)(q:MV)(sp:List (Spec P (mXP M fz I 1 bad q) w))(g:Gh)(args:List SV)(R:SV)
  (xs:List Value) (hA:AtW (mX M fz I 1) w I lab fz (lkp (GE 0 [m0])) w) (hlen:xs.length=args.length) (hx:∀(j:Nat) (v:SV) (x:Value),args[j]?=some v->xs[j]?=some x->Ap (hp w) fz lab I (lkp (GE 0 [m0])) v x)
  (hnm:∀v∈args,∀k∈v.names,k<1) (hn:args.length<=fn.ntmps) (hq:∀r∈q.2,∀c∈r,c.names=[])
  (h:vc (mXP M fz I 1 bad q) w sp fn.ntmps g c ⟨J7 0 args,GE 0 [m0]⟩ (My P (mXP M fz I 1 bad q) fn.results.toList (fZ bad R [some q]))) :
  Calls P f xs.toArray w (λen w'=>(bad=false/\LZ w M fz I 1 [some q] R en w')∨(bad=true/\∃ch,en= .panicked ch/\b7 ch/\∃I' lab' fz',AtW (mX M fz I 1) w I' lab' fz' (lkp (memO 0 [some q])) w')):=by
 refine calls_of_wp hf hb (Code.wp_mono ?_ (AP sp g c _ _ h _ w ?_))
 .rintro e a w' (⟨s,hq',hs⟩|⟨ch,rfl,hd,hch,I1,l1,f1,H1,hA1,hpn⟩)
  .have fin:Mx P (mXP M fz I 1 bad q) fn.results.toList (fZ bad R [some q]) s->a.defers=[]/\∃v,(results fn a.tmps).run P w'= .ok v w'/\((bad=false/\LZ w M fz I 1 [some q] R (Ending.returned v) w')∨(bad=true/\∃ch,Ending.returned v= .panicked ch/\b7 ch/\∃I' lab' fz',AtW (mX M fz I 1) w I' lab' fz' (lkp (memO 0 [some q])) w')):=by
    rintro ⟨cs,s',vs,h1,h2,h3,h0,h4,h5,h6⟩
    refine⟨hs.defers,?_⟩
    obtain⟨_,I',lab',fz',hA'⟩:=Gm h1 a w' hs
    obtain⟨x,x1,x2⟩:=K4 hA' h2 h3
    refine⟨x,x1,.inl ⟨h0,x,I',lab',fz',rfl,Qo (Ve (X:=mXP M fz I 1 bad q) (X':=mX M fz I 1) rfl rfl rfl hA'.m) h6 (λp hp'=>?_),VX h4 (Nv h5 x2)⟩⟩
    obtain⟨q1,q2,_⟩:=Ih hp'
    exact PI _ _ _ q1 (by simpa using q2)
   cases e with
   |normal=>exact fin hq'
   |ret=>exact fin hq'
   |_=>exact hq'.elim
  .have hbt:bad=true:=by
    cases bad with
    |true=>rfl
    |false=>exact hpn.elim
   subst hbt
   obtain⟨hk0,_⟩:=(show LV [(0,q)] H1 from hpn)
   cases hk:H1 0 with
   |none=>rw[hk]at hk0;exact hk0.elim
   |some ch0=>
   rw[hk]at hk0
   cases ch0 with
   |dead=>exact hk0.elim
   |mp=>exact hk0.elim
   |fact=>exact hk0.elim
   |vec u z es=>
   obtain⟨hz,hw⟩:=hk0
   have hc0:=hA1.h 0 _ hk
   refine⟨hd.1,.inr ⟨rfl,ch,rfl,hch,I1,l1,f1,?_,?_,hA1.own,hA1.fzl,hA1.fzo,hA1.kept,λp hp'=>⟨?_,(hA1.fix p hp').2⟩⟩⟩
   .intro k ch hk2
    rw[Hh]at hk2
    match k,hk2 with
    |0,hk2=>
     simp only[List.getElem?_cons_zero,Option.map_some,chO,jS]at hk2
     subst hk2
     obtain⟨c1,c2,c3⟩:=hc0
     exact⟨c1,by rw[c2,<- hz],by rw[<- hz];exact Ux c3 (RU hw)⟩
    |k+1,hk2=>simp at hk2
   .intro k ch hk2 n hn'
    rw[Hh]at hk2
    match k,hk2 with
    |0,hk2=>
     simp only[List.getElem?_cons_zero,Option.map_some,chO,jS]at hk2
     subst hk2
     obtain⟨r,hr,hn'⟩:=List.mem_flatMap.1 hn'
     obtain⟨c,hc,hn'⟩:=List.mem_flatMap.1 hn'
     rw[hq r hr c hc]at hn';cases hn'
    |k+1,hk2=>simp at hk2
   .obtain⟨q1,q2,_⟩:=Ih hp'
    rw[Hh]
    have:p.1=0:=by omega
    rw[this];rfl
 .refine⟨?_,I,lab,fz,?_,⟨rfl,λp hp=>by cases hp⟩,?_,Ve (X:=mX M fz I 1) (X':=mXP M fz I 1 bad q) rfl rfl rfl hA⟩
  .intro t g v ht _ k hk
   rw[H8]at ht
   simp only[Nat.zero_le,if_true,Nat.sub_zero,Option.map_eq_some_iff,jP]at ht
   obtain⟨u,hu,rfl,rfl⟩:=ht
   have:=hnm u (List.mem_of_getElem? hu) k hk
   show (lkp (GE 0 [m0]) k).isSome=true
   rw[GE,Hh]
   simp[this]
  .simp_all
  .intro t g v ht
   rw[H8]at ht
   simp only[Nat.zero_le,if_true,Nat.sub_zero,Option.map_eq_some_iff,jP]at ht
   obtain⟨u,hu,rfl,rfl⟩:=ht
   have hlt:t<args.length:=(List.getElem?_eq_some_iff.1 hu).1
   have hlt2:t<xs.length:=by omega
   refine⟨xs[t],?_,?_⟩
   .grind
   .simp only[if_true]
    exact hx t u _ hu (getElem?_eq_getElem hlt2)
end
attribute [go_sem] nI jI jH A3z GV GW
end Go.Sy
