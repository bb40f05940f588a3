/- Calls as statements, walked. No conditions but those in each statement. -/
import Derived.Test.YtjnnmindcbgjhaaRmc
set_option linter.unusedVariables false
set_option linter.unusedSimpArgs false
open List (length_append)
namespace Go.Proofs.Ytjnnmindcbgjhaa
open Go Go.Sy Go.RowKit
theorem A6J {l:List Ar} {i:Nat} {x:Ar} (h:l[i]?=some x) (z:List D):(l.map Ar.r).getD i z=[.v (.bool x.p),.v (.string (bs x.s)),x.e.d]:=by simp[List.getD,h,Ar.r,dS]
theorem vN {l:List Fn} {i:Int} (h:0≤i∧i<(l.length:Int)) (z:List D):(l.map Fn.r).getD i.toNat z=[.v (.string (bs (l.getD i.toNat ⟨[],[],[],[]⟩).name)),.sl zVr ((l.getD i.toNat ⟨[],[],[],[]⟩).ps.map Vr.r),.sl zVr ((l.getD i.toNat ⟨[],[],[],[]⟩).ls.map Vr.r),.sl zSm ((l.getD i.toNat ⟨[],[],[],[]⟩).body.map Sm.r)]:=by
 have h1:i.toNat<l.length:=by omega
 simp[List.getD,h1,Fn.r,dS]
theorem WS (k:Nat) (z:List D) (es:List (List D)) (vs:Vs):(vsC vs).map (fun p=>(p.1,p.2.map (fzC k z es)))=vsC vs:=Dp fun p hp=>by
 obtain⟨a,_,rfl⟩:=List.mem_map.1 hp
 rfl
theorem WT:List.drop 1 zFn=[.v (.slice none 0 0),.v (.slice none 0 0),.v (.slice none 0 0)]:=rfl
theorem WU:cVq.d (.one (.v (.slice none 0 0)))=some []:=D7 (e:=fun l:List Vr=>.one (.d (.sl zVr (l.map Vr.r)))) (a:=[]) (Or.inr ⟨rfl,rfl⟩)
theorem vO (l:List Fn):(∀z,(l.map Fn.r).getD 0 z=z)∨∃(n:List UInt8) (ps ls:List Vr) (bd:List Sm),∀z,(l.map Fn.r).getD 0 z=[.v (.string (bs n)),.sl zVr (ps.map Vr.r),.sl zVr (ls.map Vr.r),.sl zSm (bd.map Sm.r)]:=by
 cases l with
 |nil=>exact .inl fun z=>rfl
 |cons f r=>exact .inr ⟨f.name,f.ps,f.ls,f.body,fun z=>rfl⟩
def apE (l:List Va):Ev (List Va)→Ev (List Va)
 | .ok r=>.ok (l++r)
 | .no k=>.no k
theorem oa (e:Ev (List Va)):apE [] e=e:=by cases e<;>rfl
theorem A6K {P:Pg} {m:Ms} {vs:Vs} {x:Ar} {r:List Ar} {l:List Va} (h:x.p=true):apE l (Du P m vs (x::r))=apE (l++[⟨true,0,(Fp vs x.s).s⟩]) (Du P m vs r):=by
 simp only[Du]
 rw[if_pos h]
 cases Du P m vs r with
 |ok t=>simp[apE]
 |no k=>rfl
theorem A1A {P:Pg} {m:Ms} {vs:Vs} {x:Ar} {r:List Ar} {l:List Va} {j:Int} (h:x.p=false) (he:evF P m vs x.e= .no j):apE l (Du P m vs (x::r))= .no j:=by
 simp only[Du]
 rw[if_neg (by rw[h];decide),he];rfl
theorem A1B {P:Pg} {m:Ms} {vs:Vs} {x:Ar} {r:List Ar} {l:List Va} {v:Int} (h:x.p=false) (he:evF P m vs x.e= .ok v):apE l (Du P m vs (x::r))=apE (l++[⟨false,v,[]⟩]) (Du P m vs r):=by
 simp only[Du]
 rw[if_neg (by rw[h];decide),he]
 dsimp only
 cases Du P m vs r with
 |ok t=>simp[apE]
 |no k=>rfl
theorem vP {st:Sm→Fa→Ro} {s:Sm} {q:Fa} {j:Int} (h:Du q.P q.m q.vs s.ar= .no j):Ek st s q=q.brk s j:=by unfold Ek;rw[h]
theorem A1C {st:Sm→Fa→Ro} {s:Sm} {q:Fa} {l:List Va} (h:Du q.P q.m q.vs s.ar= .ok l) (hf:q.P.fi s.y=none):Ek st s q=q.brk s 4:=by unfold Ek;rw[h];dsimp only;rw[hf]
theorem A1D {st:Sm→Fa→Ro} {s:Sm} {q:Fa} {l:List Va} {i:Int} {g:Fn} (h:Du q.P q.m q.vs s.ar= .ok l) (hf:q.P.fi s.y=some i) (hg:q.P.fs.getD i.toNat ⟨[],[],[],[]⟩=g) (hft:FS g.ps l=false):Ek st s q=q.brk s 4:=by
 unfold Ek;rw[h];dsimp only;rw[hf];dsimp only;rw[hg,if_pos hft]
theorem A1E {st:Sm→Fa→Ro} {s:Sm} {q:Fa} {l:List Va} {i:Int} {g:Fn} (h:Du q.P q.m q.vs s.ar= .ok l) (hf:q.P.fi s.y=some i) (hg:q.P.fs.getD i.toNat ⟨[],[],[],[]⟩=g) (hft:FS g.ps l=true):Ek st s q=Q7 s q (EG st q.P g l q.m):=by
 unfold Ek;rw[h];dsimp only;rw[hf];dsimp only;rw[hg,if_neg (by rw[hft];decide)]
theorem Ta (q:Fa) (s:Sm) (v:Int):(DZ q s v).t=false:=by
 unfold DZ
 split
 ·rfl
 ·split<;>rfl
def IW (l:List Va) (k:Nat):List Va:=l++List.replicate (k-l.length) va0
theorem oc (k:Nat):(IW [] k).map Va.c=List.replicate k [.v (.bool false),.v (.int .i64 0),.v (.string (bs []))]:=by
 show (([]:List Va)++List.replicate (k-0) va0).map Va.c=_
 rw[List.nil_append,Nat.sub_zero,List.map_replicate];rfl
theorem od {l:List Va} {k:Nat} (h:l.length≤k):(IW l k).length=k:=by
 unfold IW;rw[length_append,List.length_replicate];omega
theorem oe {l:List Va} {k:Nat} (h:l.length=k):IW l k=l:=by
 unfold IW;rw[h,Nat.sub_self];simp
theorem og {l:List Va} {k:Nat} (h:l.length<k) (p:Bool) (n:Int) (s:List UInt8):((IW l k).map Va.c).set l.length [.v (.bool p),.v (.int .i64 n),.v (.string (bs s))]=(IW (l++[⟨p,n,s⟩]) k).map Va.c:=by
 have e:((IW l k).map Va.c).set l.length (Va.c ⟨p,n,s⟩)=((IW l k).set l.length ⟨p,n,s⟩).map Va.c:=(List.map_set (f:=Va.c) (a:=(⟨p,n,s⟩:Va))).symm
 have e2:(IW l k).set l.length ⟨p,n,s⟩=IW (l++[⟨p,n,s⟩]) k:=by
  unfold IW
  rw[List.set_append_right _ _ (Nat.le_refl _),Nat.sub_self]
  obtain⟨j,hj⟩:∃j,k-l.length=j+1:=⟨k-l.length-1,by omega⟩
  rw[hj,List.replicate_succ,List.set_cons_zero,length_append,show k-(l.length+[(⟨p,n,s⟩:Va)].length)=j by simp only[List.length_cons,List.length_nil];omega]
  simp
 rw[← e2];exact e
theorem oh {l:List Va} {k:Nat} (h:l.length<k) (z:List C):((IW l k).map Va.c).getD l.length z=[.v (.bool false),.v (.int .i64 0),.v (.string (bs []))]:=by
 have h1:(IW l k)[l.length]?=some va0:=by
  unfold IW
  rw[List.getElem?_append_right (Nat.le_refl _),Nat.sub_self,List.getElem?_replicate,if_pos (by omega)]
 rw[List.getD,List.getElem?_map,h1];rfl
theorem vQ (n:Nat) (a b c:Value):List.flatMap (fun l=>List.flatMap C.names l) (List.replicate n [C.v a,C.v b,C.v c])=[]:=List.flatMap_eq_nil_iff.2 fun r hr=>by
 rw[List.eq_of_mem_replicate hr];rfl
theorem A1F (a:Va):∀c∈a.c,c.names=[]:=by
 intro c hc
 simp only[Va.c,List.mem_cons,List.not_mem_nil,or_false]at hc
 rcases hc with rfl|rfl|rfl<;>rfl
theorem XG (l:List Va):List.flatMap (fun r=>List.flatMap C.names r) (l.map Va.c)=[]:=List.flatMap_eq_nil_iff.2 fun r hr=>by
 obtain⟨a,_,rfl⟩:=List.mem_map.1 hr
 exact List.flatMap_eq_nil_iff.2 (A1F a)
theorem Ji (l:List Va):DM (l.map Va.c)=some (l.map Va.r):=GX Va.c (fun _=>rfl) l
abbrev MW (N:Nat) (n:Nat) (q:Fa) (s:Sm):Prop:=okT N s∧okMs N n q∧n≤1000000000
abbrev C9 (N:Nat) (n:Nat) (q:Fa) (s:Sm):Bool:=(Ek (stF n) s q).b
abbrev BU (N:Nat) (n:Nat) (q:Fa) (s:Sm):Fa:=(Ek (stF n) s q).q
abbrev Bw (N:Nat) (n:Nat) (q:Fa) (s:Sm):Fa:=(Ek (stF n) s q).q
abbrev Eh (N:Nat) (n:Nat) (q:Fa) (s:Sm):SV:=.tup []
theorem oi:∀b,∀v∈ArgC.e (acS (cSp) ac0) b,v.tupB=false:=by rintro ⟨x0,_⟩ v hv;simp only[HU,HT,List.mem_cons,List.not_mem_nil,or_false]at hv;subst hv<;>first|rfl|exact Ik _|exact Il _
noncomputable abbrev Hn:ArgL (Fa×(Sm)×Unit):=amFr (acS (cSp) ac0) oi
abbrev P7 (N:Nat) (n:Nat):Prop:=E8 Try.prog 102 (Hn).args (Hn).mem (fun p:(Fa×(Sm)×Unit)=>MW N n p.1 p.2.1) (fun p:(Fa×(Sm)×Unit)=>C9 N n p.1 p.2.1) (fun p:(Fa×(Sm)×Unit)=>Eh N n p.1 p.2.1) (fun p:(Fa×(Sm)×Unit)=>Fa.memO (BU N n p.1 p.2.1)) (fun p:(Fa×(Sm)×Unit)=>mlO (Fa.pan (Bw N n p.1 p.2.1)))
theorem ol (N:Nat) (n:Nat):∀p,(fun p:(Fa×(Sm)×Unit)=>MW N n p.1 p.2.1) p→(fun p:(Fa×(Sm)×Unit)=>C9 N n p.1 p.2.1) p=false→Dq ((Hn).mem p).length ((fun p:(Fa×(Sm)×Unit)=>Fa.memO (BU N n p.1 p.2.1)) p)=true∧kdL ((Hn).mem p) ((fun p:(Fa×(Sm)×Unit)=>Fa.memO (BU N n p.1 p.2.1)) p)=true∧EZ ((fun p:(Fa×(Sm)×Unit)=>Fa.memO (BU N n p.1 p.2.1)) p) ((fun p:(Fa×(Sm)×Unit)=>Eh N n p.1 p.2.1) p)∧∀q,some q∈(fun p:(Fa×(Sm)×Unit)=>Fa.memO (BU N n p.1 p.2.1)) p→DO ((fun p:(Fa×(Sm)×Unit)=>Fa.memO (BU N n p.1 p.2.1)) p).length q:=fun p _ _=>have h:=Db p.1 (BU N n p.1 p.2.1);⟨h.1,h.2.1,rfl,h.2.2⟩
theorem om (N:Nat) (n:Nat):∀p,(fun p:(Fa×(Sm)×Unit)=>MW N n p.1 p.2.1) p→(fun p:(Fa×(Sm)×Unit)=>C9 N n p.1 p.2.1) p=true→((fun p:(Fa×(Sm)×Unit)=>mlO (Fa.pan (Bw N n p.1 p.2.1))) p).length=((Hn).mem p).length∧kdL ((Hn).mem p) ((fun p:(Fa×(Sm)×Unit)=>mlO (Fa.pan (Bw N n p.1 p.2.1))) p)=true∧∀q,some q∈(fun p:(Fa×(Sm)×Unit)=>mlO (Fa.pan (Bw N n p.1 p.2.1))) p→DO ((fun p:(Fa×(Sm)×Unit)=>mlO (Fa.pan (Bw N n p.1 p.2.1))) p).length q:=fun p _ _=>IQ p.1 (Bw N n p.1 p.2.1)
theorem ot (N:Nat) (n:Nat):∀p,(fun p:(Fa×(Sm)×Unit)=>MW N n p.1 p.2.1) p→(fun p:(Fa×(Sm)×Unit)=>C9 N n p.1 p.2.1) p=true→Dq ((Hn).mem p).length ((fun p:(Fa×(Sm)×Unit)=>Fa.memO (BU N n p.1 p.2.1)) p)=true∧EZ ((fun p:(Fa×(Sm)×Unit)=>Fa.memO (BU N n p.1 p.2.1)) p) ((fun p:(Fa×(Sm)×Unit)=>Eh N n p.1 p.2.1) p):=fun p _ _=>⟨(Db p.1 (BU N n p.1 p.2.1)).1,rfl⟩
noncomputable def Uq {X:Ctx} {w0:World} (N:Nat) (n:Nat) (h:P7 N n):Sy.Spec Try.prog X w0:=Dj 102 Try.call102 (Hn) (fun p:(Fa×(Sm)×Unit)=>MW N n p.1 p.2.1) (fun p:(Fa×(Sm)×Unit)=>C9 N n p.1 p.2.1) (fun p:(Fa×(Sm)×Unit)=>Eh N n p.1 p.2.1) (fun p:(Fa×(Sm)×Unit)=>Fa.memO (BU N n p.1 p.2.1)) (fun p:(Fa×(Sm)×Unit)=>mlO (Fa.pan (Bw N n p.1 p.2.1))) (ol N n) (om N n) (ot N n) (fun _=>rfl) h
theorem ou {X:Ctx} {w0:World} (N:Nat) (n:Nat) (h:P7 N n):(Uq (X:=X) (w0:=w0) N n h).f=102:=rfl
theorem ow {X:Ctx} {w0:World} (N:Nat) (n:Nat) (h:P7 N n) (t:Nat) (args:List SV) (H:Hp):(Uq (X:=X) (w0:=w0) N n h).fn t args H=spL X ((Hn).d H args) t H (fun p:(Fa×(Sm)×Unit)=>MW N n p.1 p.2.1) (fun p:(Fa×(Sm)×Unit)=>C9 N n p.1 p.2.1) (fun p:(Fa×(Sm)×Unit)=>Eh N n p.1 p.2.1) (fun p:(Fa×(Sm)×Unit)=>Fa.memO (BU N n p.1 p.2.1)) (fun p:(Fa×(Sm)×Unit)=>mlO (Fa.pan (Bw N n p.1 p.2.1))):=rfl
attribute [local go_sem] Fa.mem Fa.memO Fa.pan ML.ch ML.ren Sm.ar Sm.cd Sm.e Sm.el Sm.f Sm.k Sm.no Sm.th Sm.x Sm.y G6 G5 G7 Dl BJ BP BQ BE BN BO KV KU Cy Cx chL IB EL EK GB fcN Im frC IC G4 lmH lmO Fj HF HG mcC ID HE mcW E9 DQ DR Fk nmX AB AA Eb Ej Ds Dt Fo Fm FJ FI EO F8 rnC H7 AK D8 Dr DP CR EY vrQ IE Io FM
set_option maxRecDepth 20000 in set_option maxHeartbeats 64000000 in
attribute[local go_sem] xt in
theorem vR (N:Nat) (n:Nat) (hu:SS N n):P7 N n:=by
 rintro ⟨q,s,_u⟩ w M I lab fz xs hc hA hl hx
 refine Cb Try.func102 rfl (Fa.mem q) w M I lab fz (C9 N n q s) (Fa.pan (Bw N n q s)) (Fa.memO (BU N n q s)) [Bd,(Jh N (P6 N)),Ci,C3,(Ba N n hu)] [(11,[.fz 15])] ((Hn).args ⟨q,s,_u⟩) (Eh N n q s) xs hA hl hx (Gm _ _ _ _) (jN rfl) (Nat.le_refl _) rfl (IR _) ?_
 clear hx hl hA xs
 simp only[Try.f102]
 obtain⟨hT,hM,hn⟩:=hc
 dsimp only at hT hM hn
 have hal:s.ar.length≤5000:=hT.k.l
 have had:∀a∈s.ar,a.e.dp<N:=hT.k.a
 obtain⟨k0,x0,y0,e0,f0,cd0,ar0,th0,el0,no0⟩:=s
 dsimp only[Sm.ar]at hal had
 simp only[↓eB,seval,go_sem,↓A1,Be,Bf,Bg,Bh,Va.c,Option.isSome_some,Option.isSome_none,Ev.b,Ev.vl,evA,evW,va0,Bd,Cj,Ck,Bc,B7,BM,CO,CP,BZ,BR,B2,BC,Ci,D4,D5,Bv,C2,BK,Bq,C3,Bb,Ba,BA,Aq,Ak,C9,BU,Bw,AE,AF,BH,BD,CJ,CK,DW,DX,CF,CG,CH,cSl,Fn.c]
 try simp only[A2,A3]
 repeat' (first|exact ck|with_reducible apply And.intro)
 all_goals try first|exact hal|decide|omega
 refine Ab (Y:=List Va) (fun l=>l.length≤ar0.length∧Du q.P q.m q.vs ar0=apE l (Du q.P q.m q.vs (ar0.drop l.length)))
  (fun l=>⟨[(0,true,.one (.p 0 0 0)),(1,true,.one (.dp [.v (.int .i64 k0),.v (.string (bs x0)),.v (.string (bs y0)),e0.d,f0.d,cd0.d,.sl zAr (ar0.map Ar.r),.sl zSm (th0.map Sm.r),.sl zSm (el0.map Sm.r),.v (.int .i64 no0)])),(4,true,.one (.s 15)),(19,true,.one (.d (.sl zAr (ar0.map Ar.r)))),(20,true,.one (.v (.int .i64 (ar0.length:Int)))),(21,true,.one (.v (.int .i64 (l.length:Int))))],[(0,.vec 0 zFr [frC q]),(1,.vec 0 zMc [mcC q.P q.m]),(2,.mp true (vsC q.vs)),(15,.vec 0 [.v (.bool false),.v (.int .i64 0),.v (.string (bs []))] ((IW l ar0.length).map Va.c))]⟩)
  (fun l=>ar0.length-l.length) [] ⟨Nat.zero_le _,(oa _).symm⟩ ?_ ?_
 ·refine A4 [] ?_;simp only[↓eB,seval,go_sem,↓A1,oc,vQ]
 ·rintro l ⟨hi,hJ⟩
  refine Au [Bd,Jh N (P6 N),Ci,C3,Ba N n hu] [(11,[.fz 15])] _ _ _ ?_
  have w1:IntKind.i64.wrap ((l.length:Int)+1)=((l.length+1:Nat):Int):=by rw[wrap_i64 (by omega) (by omega)];rfl
  have fl1:=od hi
  cases hx:ar0[l.length]? with
  |some x=>
   have hlt:=(List.getElem?_eq_some_iff.1 hx).1
   have h1:=BF hlt
   have h2:=A6J hx
   have hfs:=og hlt
   have hgt:=oh hlt
   have hxd:x.e.dp<N:=had x (List.mem_of_getElem? hx)
   rw[CA hx]at hJ
   cases hp:x.p with
   |true=>
    have hJ2:∀v,(Fp q.vs x.s).s=v→Du q.P q.m q.vs ar0=apE (l++[⟨true,0,v⟩]) (Du q.P q.m q.vs (ar0.drop (l.length+1))):=fun v hv=>by rw[hJ,A6K hp,hv]
    cases hv:B4 q.vs x.s with
    |none=>
     have hv2:(Fp q.vs x.s).s=[]:=by unfold Fp;rw[hv];rfl
     simp only[↓eB,seval,go_sem,↓A1,Be,Bf,Bg,Bh,Va.c,Option.isSome_some,Option.isSome_none,Ev.b,Ev.vl,evA,evW,va0,Bd,Cj,Ck,Bc,B7,BM,CO,CP,BZ,BR,B2,BC,Ci,D4,D5,Bv,C2,BK,Bq,C3,Bb,Ba,BA,Aq,Ak,C9,BU,Bw,AE,AF,BH,BD,CJ,CK,DW,DX,CF,CG,CH,cSl,Fn.c,h1,h2,hp,hv,w1,hfs,hgt,fl1]
     try simp only[A2,A3]
     repeat' first|exact ck|with_reducible apply And.intro|intro _
     all_goals try first|exact hlt|(rename_i h;first|exact oI h|exact nah h)|(rename_i _ h _ g;exact sL h g)|decide|omega
     refine⟨l++[⟨true,0,[]⟩],⟨by rw[length_append];exact hlt,by rw[length_append];exact hJ2 _ hv2⟩,by rw[length_append];show ar0.length-(l.length+1)<_;omega,A4 [] ?_⟩
     simp only[↓eB,seval,go_sem,↓A1,length_append,XG]
    |some u=>
     have hv2:(Fp q.vs x.s).s=u.s:=by unfold Fp;rw[hv];rfl
     simp only[↓eB,seval,go_sem,↓A1,Be,Bf,Bg,Bh,Va.c,Option.isSome_some,Option.isSome_none,Ev.b,Ev.vl,evA,evW,va0,Bd,Cj,Ck,Bc,B7,BM,CO,CP,BZ,BR,B2,BC,Ci,D4,D5,Bv,C2,BK,Bq,C3,Bb,Ba,BA,Aq,Ak,C9,BU,Bw,AE,AF,BH,BD,CJ,CK,DW,DX,CF,CG,CH,cSl,Fn.c,h1,h2,hp,hv,w1,hfs,hgt,fl1]
     try simp only[A2,A3]
     repeat' first|exact ck|with_reducible apply And.intro|intro _
     all_goals try first|exact hlt|(rename_i h;first|exact oI h|exact nah h)|(rename_i _ h _ g;exact sL h g)|decide|omega
     refine⟨l++[⟨true,0,u.s⟩],⟨by rw[length_append];exact hlt,by rw[length_append];exact hJ2 _ hv2⟩,by rw[length_append];show ar0.length-(l.length+1)<_;omega,A4 [] ?_⟩
     simp only[↓eB,seval,go_sem,↓A1,length_append,XG]
   |false=>
    cases he:evF q.P q.m q.vs x.e with
    |no j=>
     have hA:Du q.P q.m q.vs ar0= .no j:=by rw[hJ,A1A hp he]
     have hI:Ek (stF n) (.mk k0 x0 y0 e0 f0 cd0 ar0 th0 el0 no0) q=q.brk (.mk k0 x0 y0 e0 f0 cd0 ar0 th0 el0 no0) j:=vP hA
     simp only[↓eB,seval,go_sem,↓A1,Be,Bf,Bg,Bh,Va.c,Option.isSome_some,Option.isSome_none,Ev.b,Ev.vl,evA,evW,va0,Bd,Cj,Ck,Bc,B7,BM,CO,CP,BZ,BR,B2,BC,Ci,D4,D5,Bv,C2,BK,Bq,C3,Bb,Ba,BA,Aq,Ak,C9,BU,Bw,AE,AF,BH,BD,CJ,CK,DW,DX,CF,CG,CH,cSl,Fn.c,h1,h2,hp,he,w1,hfs,hgt,fl1,hI,Fa.brk]
     try simp only[A2,A3]
     repeat' first|exact ck|with_reducible apply And.intro|intro _
     all_goals first|exact hlt|exact⟨hM.c,hxd⟩|exact hM.c|exact hxd|(rename_i h;first|exact oI h|exact nah h)|(rename_i _ h _ g;exact sL h g)|decide|omega|(refine A0 [] ?_;simp only[↓eB,seval,go_sem,bne,Eh,C9,BU,Bw,A6,↓A1,Ev.b,Ev.vl,evA,evW,va0,Bd,Cj,Ck,Bc,B7,BM,CO,CP,BZ,BR,B2,BC,Ci,D4,D5,Bv,C2,BK,Bq,C3,Bb,Ba,BA,Aq,Ak,AE,AF,BH,BD,CJ,CK,DW,DX,CF,CG,CH,cSl,Fn.c,hI,Fa.brk])
    |ok v=>
     have hJ2:Du q.P q.m q.vs ar0=apE (l++[⟨false,v,[]⟩]) (Du q.P q.m q.vs (ar0.drop (l.length+1))):=by rw[hJ,A1B hp he]
     simp only[↓eB,seval,go_sem,↓A1,Be,Bf,Bg,Bh,Va.c,Option.isSome_some,Option.isSome_none,Ev.b,Ev.vl,evA,evW,va0,Bd,Cj,Ck,Bc,B7,BM,CO,CP,BZ,BR,B2,BC,Ci,D4,D5,Bv,C2,BK,Bq,C3,Bb,Ba,BA,Aq,Ak,C9,BU,Bw,AE,AF,BH,BD,CJ,CK,DW,DX,CF,CG,CH,cSl,Fn.c,h1,h2,hp,he,w1,hfs,hgt,fl1]
     try simp only[A2,A3]
     repeat' first|exact ck|with_reducible apply And.intro|intro _
     all_goals try first|exact hlt|exact⟨hM.c,hxd⟩|exact hM.c|exact hxd|(rename_i h;first|exact oI h|exact nah h)|(rename_i _ h _ g;exact sL h g)|decide|omega
     refine⟨l++[⟨false,v,[]⟩],⟨by rw[length_append];exact hlt,by rw[length_append];exact hJ2⟩,by rw[length_append];show ar0.length-(l.length+1)<_;omega,A4 [] ?_⟩
     simp only[↓eB,seval,go_sem,↓A1,length_append,XG]
  |none=>
   have h2:=List.getElem?_eq_none_iff.1 hx
   have h1:=BG h2
   have hll:l.length=ar0.length:=by omega
   rw[List.drop_eq_nil_of_le h2]at hJ
   have hA:Du q.P q.m q.vs ar0= .ok l:=by rw[hJ];show Ev.ok (l++[])=_;rw[List.append_nil]
   have hfull:IW l ar0.length=l:=oe hll
   have hl5:l.length≤5000:=by omega
   cases hf:q.P.fi y0 with
   |none=>
    have hI:Ek (stF n) (.mk k0 x0 y0 e0 f0 cd0 ar0 th0 el0 no0) q=q.brk (.mk k0 x0 y0 e0 f0 cd0 ar0 th0 el0 no0) 4:=A1C hA hf
    rcases vO q.P.fs with h0|⟨n0,p0,l0,b0,h0⟩
    ·simp only[↓eB,seval,go_sem,↓A1,Be,Bf,Bg,Bh,Va.c,Option.isSome_some,Option.isSome_none,Ev.b,Ev.vl,evA,evW,va0,Bd,Cj,Ck,Bc,B7,BM,CO,CP,BZ,BR,B2,BC,Ci,D4,D5,Bv,C2,BK,Bq,C3,Bb,Ba,BA,Aq,Ak,C9,BU,Bw,AE,AF,BH,BD,CJ,CK,DW,DX,CF,CG,CH,cSl,Fn.c,h1,hf,hI,Fa.brk,hfull,h0,Ji,WU,WT]
     try simp only[A2,A3]
     repeat' first|exact ck|with_reducible apply And.intro|intro _
     all_goals first|exact hl5|(rename_i h;first|exact oI h|exact nah h)|(rename_i _ h _ g;exact sL h g)|decide|omega|(refine A0 [] ?_;simp only[↓eB,seval,go_sem,bne,Eh,C9,BU,Bw,A6,↓A1,Ev.b,Ev.vl,evA,evW,va0,Bd,Cj,Ck,Bc,B7,BM,CO,CP,BZ,BR,B2,BC,Ci,D4,D5,Bv,C2,BK,Bq,C3,Bb,Ba,BA,Aq,Ak,AE,AF,BH,BD,CJ,CK,DW,DX,CF,CG,CH,cSl,Fn.c,hI,Fa.brk])
    ·simp only[↓eB,seval,go_sem,↓A1,Be,Bf,Bg,Bh,Va.c,Option.isSome_some,Option.isSome_none,Ev.b,Ev.vl,evA,evW,va0,Bd,Cj,Ck,Bc,B7,BM,CO,CP,BZ,BR,B2,BC,Ci,D4,D5,Bv,C2,BK,Bq,C3,Bb,Ba,BA,Aq,Ak,C9,BU,Bw,AE,AF,BH,BD,CJ,CK,DW,DX,CF,CG,CH,cSl,Fn.c,h1,hf,hI,Fa.brk,hfull,h0,Ji,WU,WT]
     try simp only[A2,A3]
     repeat' first|exact ck|with_reducible apply And.intro|intro _
     all_goals first|exact hl5|(rename_i h;first|exact oI h|exact nah h)|(rename_i _ h _ g;exact sL h g)|decide|omega|(refine A0 [] ?_;simp only[↓eB,seval,go_sem,bne,Eh,C9,BU,Bw,A6,↓A1,Ev.b,Ev.vl,evA,evW,va0,Bd,Cj,Ck,Bc,B7,BM,CO,CP,BZ,BR,B2,BC,Ci,D4,D5,Bv,C2,BK,Bq,C3,Bb,Ba,BA,Aq,Ak,AE,AF,BH,BD,CJ,CK,DW,DX,CF,CG,CH,cSl,Fn.c,hI,Fa.brk])
   |some i=>
    have hi2:=Pg.fi_lt hf
    have hg:=vN hi2
    have hgm:q.P.fs.getD i.toNat ⟨[],[],[],[]⟩∈q.P.fs:=by
     have:i.toNat<q.P.fs.length:=by omega
     rw[List.getD,List.getElem?_eq_getElem this];exact List.getElem_mem this
    obtain⟨gF,gB⟩:=hM.p.f _ hgm
    obtain⟨g,hgE⟩:∃g,q.P.fs.getD i.toNat ⟨[],[],[],[]⟩=g:=⟨_,rfl⟩
    rw[hgE]at hg gF gB
    obtain⟨gn,gps,gls,gb⟩:=g
    have gp5:gps.length≤5000:=gF.1
    cases hft:FS gps l with
    |false=>
     have hI:Ek (stF n) (.mk k0 x0 y0 e0 f0 cd0 ar0 th0 el0 no0) q=q.brk (.mk k0 x0 y0 e0 f0 cd0 ar0 th0 el0 no0) 4:=A1D hA hf hgE hft
     simp only[↓eB,seval,go_sem,↓A1,Be,Bf,Bg,Bh,Va.c,Option.isSome_some,Option.isSome_none,Ev.b,Ev.vl,evA,evW,va0,Bd,Cj,Ck,Bc,B7,BM,CO,CP,BZ,BR,B2,BC,Ci,D4,D5,Bv,C2,BK,Bq,C3,Bb,Ba,BA,Aq,Ak,C9,BU,Bw,AE,AF,BH,BD,CJ,CK,DW,DX,CF,CG,CH,cSl,Fn.c,h1,hf,hg,hft,hI,Fa.brk,hfull,Ji]
     try simp only[A2,A3]
     repeat' first|exact ck|with_reducible apply And.intro|intro _
     all_goals first|exact hl5|exact gp5|exact⟨gp5,hl5⟩|exact hi2.1|exact hi2.2|(rename_i h;first|exact oI h|exact nah h)|(rename_i _ h _ g;exact sL h g)|decide|omega|(refine A0 [] ?_;simp only[↓eB,seval,go_sem,bne,Eh,C9,BU,Bw,A6,↓A1,Ev.b,Ev.vl,evA,evW,va0,Bd,Cj,Ck,Bc,B7,BM,CO,CP,BZ,BR,B2,BC,Ci,D4,D5,Bv,C2,BK,Bq,C3,Bb,Ba,BA,Aq,Ak,AE,AF,BH,BD,CJ,CK,DW,DX,CF,CG,CH,cSl,Fn.c,hI,Fa.brk])
    |true=>
     obtain⟨R,hR⟩:∃R,EG (stF n) q.P ⟨gn,gps,gls,gb⟩ l q.m=R:=⟨_,rfl⟩
     have hI:Ek (stF n) (.mk k0 x0 y0 e0 f0 cd0 ar0 th0 el0 no0) q=Q7 (.mk k0 x0 y0 e0 f0 cd0 ar0 th0 el0 no0) q R:=by rw[← hR];exact A1E hA hf hgE hft
     have hk:=XE (Ri n) q ⟨gn,gps,gls,gb⟩ l hM.l (by have h7:=hM.u;omega)
     rw[hR]at hk
     obtain⟨rb,rv,rm⟩:=R
     have hm2:okMs N n { q with m:=rm }:=hM.kq hk (by have h7:rm.fuel≤q.m.fuel:=hk.u;have:=hM.u;show rm.fuel<_;omega)
     have hm3:okMs N n ⟨[],0,q.P,q.m,[]⟩:=⟨hM.p,hM.c,hM.a,hM.l,hM.u⟩
     have hmC:okC q.P rm:=hm2.c
     cases rb with
     |true=>
      have hI2:Ek (stF n) (.mk k0 x0 y0 e0 f0 cd0 ar0 th0 el0 no0) q=⟨true,false,{ q with m:=rm }⟩:=hI
      simp only[↓eB,seval,go_sem,↓A1,Be,Bf,Bg,Bh,Va.c,Option.isSome_some,Option.isSome_none,Ev.b,Ev.vl,evA,evW,va0,Bd,Cj,Ck,Bc,B7,BM,CO,CP,BZ,BR,B2,BC,Ci,D4,D5,Bv,C2,BK,Bq,C3,Bb,Ba,BA,Aq,Ak,C9,BU,Bw,AE,AF,BH,BD,CJ,CK,DW,DX,CF,CG,CH,cSl,Fn.c,h1,hf,hg,hft,hI2,hfull,Ji,WS,hR]
      try simp only[A2,A3]
      repeat' first|exact ck|with_reducible apply And.intro|intro _
      all_goals first|exact hl5|exact gp5|exact⟨gp5,hl5⟩|exact hi2.1|exact hi2.2|exact hm3|exact⟨gF,gB⟩|exact gF|exact gB|exact hft|(rename_i h;first|exact oI h|exact nah h)|(rename_i _ h _ g;exact sL h g)|decide|omega|(refine A0 [] ?_;simp only[↓eB,seval,go_sem,bne,Eh,C9,BU,Bw,A6,↓A1,Ev.b,Ev.vl,evA,evW,va0,Bd,Cj,Ck,Bc,B7,BM,CO,CP,BZ,BR,B2,BC,Ci,D4,D5,Bv,C2,BK,Bq,C3,Bb,Ba,BA,Aq,Ak,AE,AF,BH,BD,CJ,CK,DW,DX,CF,CG,CH,cSl,Fn.c,hI2])
     |false=>
      cases hx0:(x0==[]) with
      |true=>
       have hI2:Ek (stF n) (.mk k0 x0 y0 e0 f0 cd0 ar0 th0 el0 no0) q=Fa.go { q with m:=rm }:=by rw[hI];unfold Q7;rw[if_neg (by simp),if_pos (show ((Sm.mk k0 x0 y0 e0 f0 cd0 ar0 th0 el0 no0).x==[])=true from hx0)]
       simp only[↓eB,seval,go_sem,↓A1,Be,Bf,Bg,Bh,Va.c,Option.isSome_some,Option.isSome_none,Ev.b,Ev.vl,evA,evW,va0,Bd,Cj,Ck,Bc,B7,BM,CO,CP,BZ,BR,B2,BC,Ci,D4,D5,Bv,C2,BK,Bq,C3,Bb,Ba,BA,Aq,Ak,C9,BU,Bw,AE,AF,BH,BD,CJ,CK,DW,DX,CF,CG,CH,cSl,Fn.c,h1,hf,hg,hft,hI2,hfull,Ji,WS,hR,hx0,bne,Fa.go]
       try simp only[A2,A3]
       repeat' first|exact ck|with_reducible apply And.intro|intro _
       all_goals first|exact hl5|exact gp5|exact⟨gp5,hl5⟩|exact hi2.1|exact hi2.2|exact hm3|exact⟨gF,gB⟩|exact gF|exact gB|exact hft|(rename_i h;first|exact oI h|exact nah h)|(rename_i _ h _ g;exact sL h g)|decide|omega|(refine A0 [] ?_;simp only[↓eB,seval,go_sem,bne,Eh,C9,BU,Bw,A6,↓A1,Ev.b,Ev.vl,evA,evW,va0,Bd,Cj,Ck,Bc,B7,BM,CO,CP,BZ,BR,B2,BC,Ci,D4,D5,Bv,C2,BK,Bq,C3,Bb,Ba,BA,Aq,Ak,AE,AF,BH,BD,CJ,CK,DW,DX,CF,CG,CH,cSl,Fn.c,hI2,Fa.go])
      |false=>
       obtain⟨A,hAs⟩:∃A,DZ { q with m:=rm } (.mk k0 x0 y0 e0 f0 cd0 ar0 th0 el0 no0) rv=A:=⟨_,rfl⟩
       have hI2:Ek (stF n) (.mk k0 x0 y0 e0 f0 cd0 ar0 th0 el0 no0) q=A:=by rw[hI,← hAs];unfold Q7;rw[if_neg (by simp),if_neg (by rw[show ((Sm.mk k0 x0 y0 e0 f0 cd0 ar0 th0 el0 no0).x==[])=false from hx0];decide)]
       have hat:A.t=false:=by rw[← hAs];exact Ta _ _ _
       obtain⟨ab,at1,aq⟩:=A
       cases ab with
       |true=>
        simp only[↓eB,seval,go_sem,↓A1,Be,Bf,Bg,Bh,Va.c,Option.isSome_some,Option.isSome_none,Ev.b,Ev.vl,evA,evW,va0,Bd,Cj,Ck,Bc,B7,BM,CO,CP,BZ,BR,B2,BC,Ci,D4,D5,Bv,C2,BK,Bq,C3,Bb,Ba,BA,Aq,Ak,C9,BU,Bw,AE,AF,BH,BD,CJ,CK,DW,DX,CF,CG,CH,cSl,Fn.c,h1,hf,hg,hft,hI2,hfull,Ji,WS,hR,hx0,bne,hAs]
        try simp only[A2,A3]
        repeat' first|exact ck|with_reducible apply And.intro|intro _
        all_goals first|exact hl5|exact gp5|exact⟨gp5,hl5⟩|exact hi2.1|exact hi2.2|exact hm3|exact⟨gF,gB⟩|exact gF|exact gB|exact hft|(exact fun _=>hmC)|(rename_i h;first|exact oI h|exact nah h)|(rename_i _ h _ g;exact sL h g)|decide|omega|(refine A0 [] ?_;simp only[↓eB,seval,go_sem,bne,Eh,C9,BU,Bw,A6,↓A1,Ev.b,Ev.vl,evA,evW,va0,Bd,Cj,Ck,Bc,B7,BM,CO,CP,BZ,BR,B2,BC,Ci,D4,D5,Bv,C2,BK,Bq,C3,Bb,Ba,BA,Aq,Ak,AE,AF,BH,BD,CJ,CK,DW,DX,CF,CG,CH,cSl,Fn.c,hI2])
       |false=>
        simp only[↓eB,seval,go_sem,↓A1,Be,Bf,Bg,Bh,Va.c,Option.isSome_some,Option.isSome_none,Ev.b,Ev.vl,evA,evW,va0,Bd,Cj,Ck,Bc,B7,BM,CO,CP,BZ,BR,B2,BC,Ci,D4,D5,Bv,C2,BK,Bq,C3,Bb,Ba,BA,Aq,Ak,C9,BU,Bw,AE,AF,BH,BD,CJ,CK,DW,DX,CF,CG,CH,cSl,Fn.c,h1,hf,hg,hft,hI2,hfull,Ji,WS,hR,hx0,bne,hAs]
        try simp only[A2,A3]
        repeat' first|exact ck|with_reducible apply And.intro|intro _
        all_goals first|exact hl5|exact gp5|exact⟨gp5,hl5⟩|exact hi2.1|exact hi2.2|exact hm3|exact⟨gF,gB⟩|exact gF|exact gB|exact hft|(exact fun _=>hmC)|(rename_i h;first|exact oI h|exact nah h)|(rename_i _ h _ g;exact sL h g)|decide|omega|(refine A0 [] ?_;simp only[↓eB,seval,go_sem,bne,Eh,C9,BU,Bw,A6,↓A1,Ev.b,Ev.vl,evA,evW,va0,Bd,Cj,Ck,Bc,B7,BM,CO,CP,BZ,BR,B2,BC,Ci,D4,D5,Bv,C2,BK,Bq,C3,Bb,Ba,BA,Aq,Ak,AE,AF,BH,BD,CJ,CK,DW,DX,CF,CG,CH,cSl,Fn.c,hI2])
end Go.Proofs.Ytjnnmindcbgjhaa
