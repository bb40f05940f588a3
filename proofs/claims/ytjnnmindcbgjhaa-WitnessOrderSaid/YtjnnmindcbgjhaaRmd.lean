/- Calls as statements, walked. No conditions but those in each statement. -/
import Derived.Test.YtjnnmindcbgjhaaRmc
set_option linter.unusedVariables false
set_option linter.unusedSimpArgs false
open List (length_append)
namespace Go.Proofs.Ytjnnmindcbgjhaa
open Go Go.Sy Go.RowKit
theorem A4U {l:List Ar} {i:Nat} {x:Ar} (h:l[i]?=some x) (z:List D):(l.map Ar.r).getD i z=[.v (.bool x.p),.v (.string (bs x.s)),x.e.d]:=by simp[List.getD,h,Ar.r,dS]
theorem tB {l:List Fn} {i:Int} (h:0≤i∧i<(l.length:Int)) (z:List D):(l.map Fn.r).getD i.toNat z=[.v (.string (bs (l.getD i.toNat ⟨[],[],[],[]⟩).name)),.sl zVr ((l.getD i.toNat ⟨[],[],[],[]⟩).ps.map Vr.r),.sl zVr ((l.getD i.toNat ⟨[],[],[],[]⟩).ls.map Vr.r),.sl zSm ((l.getD i.toNat ⟨[],[],[],[]⟩).body.map Sm.r)]:=by
 have h1:i.toNat<l.length:=by omega
 simp[List.getD,h1,Fn.r,dS]
theorem V5 (k:Nat) (z:List D) (es:List (List D)) (vs:Vs):(vsC vs).map (fun p=>(p.1,p.2.map (fzC k z es)))=vsC vs:=Dh fun p hp=>by
 obtain⟨a,_,rfl⟩:=List.mem_map.1 hp
 rfl
theorem V6:List.drop 1 zFn=[.v (.slice none 0 0),.v (.slice none 0 0),.v (.slice none 0 0)]:=rfl
theorem V7:cVq.d (.one (.v (.slice none 0 0)))=some []:=E9 (e:=fun l:List Vr=>.one (.d (.sl zVr (l.map Vr.r)))) (a:=[]) (Or.inr ⟨rfl,rfl⟩)
theorem tC (l:List Fn):(∀z,(l.map Fn.r).getD 0 z=z)∨∃(n:List UInt8) (ps ls:List Vr) (bd:List Sm),∀z,(l.map Fn.r).getD 0 z=[.v (.string (bs n)),.sl zVr (ps.map Vr.r),.sl zVr (ls.map Vr.r),.sl zSm (bd.map Sm.r)]:=by
 cases l with
 |nil=>exact .inl fun z=>rfl
 |cons f r=>exact .inr ⟨f.name,f.ps,f.ls,f.body,fun z=>rfl⟩
def apE (l:List Va):Ev (List Va)→Ev (List Va)
 | .ok r=>.ok (l++r)
 | .no k=>.no k
theorem lk (e:Ev (List Va)):apE [] e=e:=by cases e<;>rfl
theorem A4V {P:Pg} {m:Ms} {vs:Vs} {x:Ar} {r:List Ar} {l:List Va} (h:x.p=true):apE l (F1 P m vs (x::r))=apE (l++[⟨true,0,(FT vs x.s).s⟩]) (F1 P m vs r):=by
 simp only[F1]
 rw[if_pos h]
 cases F1 P m vs r with
 |ok t=>simp[apE]
 |no k=>rfl
theorem zA {P:Pg} {m:Ms} {vs:Vs} {x:Ar} {r:List Ar} {l:List Va} {j:Int} (h:x.p=false) (he:evF P m vs x.e= .no j):apE l (F1 P m vs (x::r))= .no j:=by
 simp only[F1]
 rw[if_neg (by rw[h];decide),he];rfl
theorem zB {P:Pg} {m:Ms} {vs:Vs} {x:Ar} {r:List Ar} {l:List Va} {v:Int} (h:x.p=false) (he:evF P m vs x.e= .ok v):apE l (F1 P m vs (x::r))=apE (l++[⟨false,v,[]⟩]) (F1 P m vs r):=by
 simp only[F1]
 rw[if_neg (by rw[h];decide),he]
 dsimp only
 cases F1 P m vs r with
 |ok t=>simp[apE]
 |no k=>rfl
theorem tD {st:Sm→Fa→Ro} {s:Sm} {q:Fa} {j:Int} (h:F1 q.P q.m q.vs s.ar= .no j):FE st s q=q.brk s j:=by unfold FE;rw[h]
theorem zC {st:Sm→Fa→Ro} {s:Sm} {q:Fa} {l:List Va} (h:F1 q.P q.m q.vs s.ar= .ok l) (hf:q.P.fi s.y=none):FE st s q=q.brk s 4:=by unfold FE;rw[h];dsimp only;rw[hf]
theorem zD {st:Sm→Fa→Ro} {s:Sm} {q:Fa} {l:List Va} {i:Int} {g:Fn} (h:F1 q.P q.m q.vs s.ar= .ok l) (hf:q.P.fi s.y=some i) (hg:q.P.fs.getD i.toNat ⟨[],[],[],[]⟩=g) (hft:GS g.ps l=false):FE st s q=q.brk s 4:=by
 unfold FE;rw[h];dsimp only;rw[hf];dsimp only;rw[hg,if_pos hft]
theorem zE {st:Sm→Fa→Ro} {s:Sm} {q:Fa} {l:List Va} {i:Int} {g:Fn} (h:F1 q.P q.m q.vs s.ar= .ok l) (hf:q.P.fi s.y=some i) (hg:q.P.fs.getD i.toNat ⟨[],[],[],[]⟩=g) (hft:GS g.ps l=true):FE st s q=RW s q (Io st q.P g l q.m):=by
 unfold FE;rw[h];dsimp only;rw[hf];dsimp only;rw[hg,if_neg (by rw[hft];decide)]
theorem SQ (q:Fa) (s:Sm) (v:Int):(F2 q s v).t=false:=by
 unfold F2
 split
 ·rfl
 ·split<;>rfl
def I5 (l:List Va) (k:Nat):List Va:=l++List.replicate (k-l.length) va0
theorem lm (k:Nat):(I5 [] k).map Va.c=List.replicate k [.v (.bool false),.v (.int .i64 0),.v (.string (bs []))]:=by
 show (([]:List Va)++List.replicate (k-0) va0).map Va.c=_
 rw[List.nil_append,Nat.sub_zero,List.map_replicate];rfl
theorem lp {l:List Va} {k:Nat} (h:l.length≤k):(I5 l k).length=k:=by
 unfold I5;rw[length_append,List.length_replicate];omega
theorem lq {l:List Va} {k:Nat} (h:l.length=k):I5 l k=l:=by
 unfold I5;rw[h,Nat.sub_self];simp
theorem lr {l:List Va} {k:Nat} (h:l.length<k) (p:Bool) (n:Int) (s:List UInt8):((I5 l k).map Va.c).set l.length [.v (.bool p),.v (.int .i64 n),.v (.string (bs s))]=(I5 (l++[⟨p,n,s⟩]) k).map Va.c:=by
 have e:((I5 l k).map Va.c).set l.length (Va.c ⟨p,n,s⟩)=((I5 l k).set l.length ⟨p,n,s⟩).map Va.c:=(List.map_set (f:=Va.c) (a:=(⟨p,n,s⟩:Va))).symm
 have e2:(I5 l k).set l.length ⟨p,n,s⟩=I5 (l++[⟨p,n,s⟩]) k:=by
  unfold I5
  rw[List.set_append_right _ _ (Nat.le_refl _),Nat.sub_self]
  obtain⟨j,hj⟩:∃j,k-l.length=j+1:=⟨k-l.length-1,by omega⟩
  rw[hj,List.replicate_succ,List.set_cons_zero,length_append,show k-(l.length+[(⟨p,n,s⟩:Va)].length)=j by simp only[List.length_cons,List.length_nil];omega]
  simp
 rw[← e2];exact e
theorem lu {l:List Va} {k:Nat} (h:l.length<k) (z:List C):((I5 l k).map Va.c).getD l.length z=[.v (.bool false),.v (.int .i64 0),.v (.string (bs []))]:=by
 have h1:(I5 l k)[l.length]?=some va0:=by
  unfold I5
  rw[List.getElem?_append_right (Nat.le_refl _),Nat.sub_self,List.getElem?_replicate,if_pos (by omega)]
 rw[List.getD,List.getElem?_map,h1];rfl
theorem tE (n:Nat) (a b c:Value):List.flatMap (fun l=>List.flatMap C.names l) (List.replicate n [C.v a,C.v b,C.v c])=[]:=List.flatMap_eq_nil_iff.2 fun r hr=>by
 rw[List.eq_of_mem_replicate hr];rfl
theorem zF (a:Va):∀c∈a.c,c.names=[]:=by
 intro c hc
 simp only[Va.c,List.mem_cons,List.not_mem_nil,or_false]at hc
 rcases hc with rfl|rfl|rfl<;>rfl
theorem Vn (l:List Va):List.flatMap (fun r=>List.flatMap C.names r) (l.map Va.c)=[]:=List.flatMap_eq_nil_iff.2 fun r hr=>by
 obtain⟨a,_,rfl⟩:=List.mem_map.1 hr
 exact List.flatMap_eq_nil_iff.2 (zF a)
theorem JD (l:List Va):D7 (l.map Va.c)=some (l.map Va.r):=FX Va.c (fun _=>rfl) l
abbrev M2 (N:Nat) (n:Nat) (q:Fa) (s:Sm):Prop:=okT N s∧okMs N n q∧n≤1000000000
abbrev C6 (N:Nat) (n:Nat) (q:Fa) (s:Sm):Bool:=(FE (stF n) s q).b
abbrev BW (N:Nat) (n:Nat) (q:Fa) (s:Sm):Fa:=(FE (stF n) s q).q
abbrev Bu (N:Nat) (n:Nat) (q:Fa) (s:Sm):Fa:=(FE (stF n) s q).q
abbrev ET (N:Nat) (n:Nat) (q:Fa) (s:Sm):SV:=.tup []
theorem lw:∀b,∀v∈ArgC.e (acS (cSp) ac0) b,v.tupB=false:=by rintro ⟨x0,_⟩ v hv;simp only[Ho,Hn,List.mem_cons,List.not_mem_nil,or_false]at hv;subst hv<;>first|rfl|exact ID _|exact IE _
noncomputable abbrev HO:ArgL (Fa×(Sm)×Unit):=amFr (acS (cSp) ac0) lw
abbrev OQ (N:Nat) (n:Nat):Prop:=EB Try.prog 102 (HO).args (HO).mem (fun p:(Fa×(Sm)×Unit)=>M2 N n p.1 p.2.1) (fun p:(Fa×(Sm)×Unit)=>C6 N n p.1 p.2.1) (fun p:(Fa×(Sm)×Unit)=>ET N n p.1 p.2.1) (fun p:(Fa×(Sm)×Unit)=>Fa.memO (BW N n p.1 p.2.1)) (fun p:(Fa×(Sm)×Unit)=>mlO (Fa.pan (Bu N n p.1 p.2.1)))
theorem lz (N:Nat) (n:Nat):∀p,(fun p:(Fa×(Sm)×Unit)=>M2 N n p.1 p.2.1) p→(fun p:(Fa×(Sm)×Unit)=>C6 N n p.1 p.2.1) p=false→Di ((HO).mem p).length ((fun p:(Fa×(Sm)×Unit)=>Fa.memO (BW N n p.1 p.2.1)) p)=true∧kdL ((HO).mem p) ((fun p:(Fa×(Sm)×Unit)=>Fa.memO (BW N n p.1 p.2.1)) p)=true∧EM ((fun p:(Fa×(Sm)×Unit)=>Fa.memO (BW N n p.1 p.2.1)) p) ((fun p:(Fa×(Sm)×Unit)=>ET N n p.1 p.2.1) p)∧∀q,some q∈(fun p:(Fa×(Sm)×Unit)=>Fa.memO (BW N n p.1 p.2.1)) p→DS ((fun p:(Fa×(Sm)×Unit)=>Fa.memO (BW N n p.1 p.2.1)) p).length q:=fun p _ _=>have h:=DU p.1 (BW N n p.1 p.2.1);⟨h.1,h.2.1,rfl,h.2.2⟩
theorem mA (N:Nat) (n:Nat):∀p,(fun p:(Fa×(Sm)×Unit)=>M2 N n p.1 p.2.1) p→(fun p:(Fa×(Sm)×Unit)=>C6 N n p.1 p.2.1) p=true→((fun p:(Fa×(Sm)×Unit)=>mlO (Fa.pan (Bu N n p.1 p.2.1))) p).length=((HO).mem p).length∧kdL ((HO).mem p) ((fun p:(Fa×(Sm)×Unit)=>mlO (Fa.pan (Bu N n p.1 p.2.1))) p)=true∧∀q,some q∈(fun p:(Fa×(Sm)×Unit)=>mlO (Fa.pan (Bu N n p.1 p.2.1))) p→DS ((fun p:(Fa×(Sm)×Unit)=>mlO (Fa.pan (Bu N n p.1 p.2.1))) p).length q:=fun p _ _=>Hx p.1 (Bu N n p.1 p.2.1)
theorem mB (N:Nat) (n:Nat):∀p,(fun p:(Fa×(Sm)×Unit)=>M2 N n p.1 p.2.1) p→(fun p:(Fa×(Sm)×Unit)=>C6 N n p.1 p.2.1) p=true→Di ((HO).mem p).length ((fun p:(Fa×(Sm)×Unit)=>Fa.memO (BW N n p.1 p.2.1)) p)=true∧EM ((fun p:(Fa×(Sm)×Unit)=>Fa.memO (BW N n p.1 p.2.1)) p) ((fun p:(Fa×(Sm)×Unit)=>ET N n p.1 p.2.1) p):=fun p _ _=>⟨(DU p.1 (BW N n p.1 p.2.1)).1,rfl⟩
noncomputable def Tb {X:Ctx} {w0:World} (N:Nat) (n:Nat) (h:OQ N n):Sy.Spec Try.prog X w0:=Dt 102 Try.call102 (HO) (fun p:(Fa×(Sm)×Unit)=>M2 N n p.1 p.2.1) (fun p:(Fa×(Sm)×Unit)=>C6 N n p.1 p.2.1) (fun p:(Fa×(Sm)×Unit)=>ET N n p.1 p.2.1) (fun p:(Fa×(Sm)×Unit)=>Fa.memO (BW N n p.1 p.2.1)) (fun p:(Fa×(Sm)×Unit)=>mlO (Fa.pan (Bu N n p.1 p.2.1))) (lz N n) (mA N n) (mB N n) (fun _=>rfl) h
theorem mC {X:Ctx} {w0:World} (N:Nat) (n:Nat) (h:OQ N n):(Tb (X:=X) (w0:=w0) N n h).f=102:=rfl
theorem mD {X:Ctx} {w0:World} (N:Nat) (n:Nat) (h:OQ N n) (t:Nat) (args:List SV) (H:Hp):(Tb (X:=X) (w0:=w0) N n h).fn t args H=spL X ((HO).d H args) t H (fun p:(Fa×(Sm)×Unit)=>M2 N n p.1 p.2.1) (fun p:(Fa×(Sm)×Unit)=>C6 N n p.1 p.2.1) (fun p:(Fa×(Sm)×Unit)=>ET N n p.1 p.2.1) (fun p:(Fa×(Sm)×Unit)=>Fa.memO (BW N n p.1 p.2.1)) (fun p:(Fa×(Sm)×Unit)=>mlO (Fa.pan (Bu N n p.1 p.2.1))):=rfl
attribute [local go_sem] Fa.mem Fa.memO Fa.pan ML.ch ML.ren Sm.ar Sm.cd Sm.e Sm.el Sm.f Sm.k Sm.no Sm.th Sm.x Sm.y Fo Fm Fp EA BG BO BP BD BM BN K1 K0 Cw Cv chL Hf E5 E4 Fu fcN IF frC Hg Fl lmH lmO FO Gj Gk mcC Hh Gg mcW EZ Dl Dm FP nmX AB AA Ds EY Dj Dk FS FR F9 F8 EX Fb rnC Gc AK DW EC Db CT Ee vrQ Hi IG FB
set_option maxRecDepth 20000 in set_option maxHeartbeats 64000000 in
attribute[local go_sem] xt in
theorem tF (N:Nat) (n:Nat) (hu:RJ N n):OQ N n:=by
 rintro ⟨q,s,_u⟩ w M I lab fz xs hc hA hl hx
 refine Cj Try.func102 rfl (Fa.mem q) w M I lab fz (C6 N n q s) (Fa.pan (Bu N n q s)) (Fa.memO (BW N n q s)) [Bd,(JC N (OP N)),Ca,C0,(Ba N n hu)] [(11,[.fz 15])] ((HO).args ⟨q,s,_u⟩) (ET N n q s) xs hA hl hx (GM _ _ _ _) (jN rfl) (Nat.le_refl _) rfl (Hy _) ?_
 clear hx hl hA xs
 simp only[Try.f102]
 obtain⟨hT,hM,hn⟩:=hc
 dsimp only at hT hM hn
 have hal:s.ar.length≤5000:=hT.k.l
 have had:∀a∈s.ar,a.e.dp<N:=hT.k.a
 obtain⟨k0,x0,y0,e0,f0,cd0,ar0,th0,el0,no0⟩:=s
 dsimp only[Sm.ar]at hal had
 simp only[↓eB,seval,go_sem,↓A1,Be,Bf,Bg,Bh,Va.c,Option.isSome_some,Option.isSome_none,Ev.b,Ev.vl,evA,evW,va0,Bd,Cb,Ce,Bc,B3,BL,CK,CL,BZ,BR,Aw,BC,Ca,D0,D1,Bt,Bz,BI,Bq,C0,Bb,Ba,B7,Ao,Aj,C6,BW,Bu,AE,AF,BJ,BV,CF,CG,DP,DQ,CB,CC,CE,cSl,Fn.c]
 try simp only[A3,A4]
 repeat' (first|exact ck|with_reducible apply And.intro)
 all_goals try first|exact hal|decide|omega
 refine Ac (Y:=List Va) (fun l=>l.length≤ar0.length∧F1 q.P q.m q.vs ar0=apE l (F1 q.P q.m q.vs (ar0.drop l.length)))
  (fun l=>⟨[(0,true,.one (.p 0 0 0)),(1,true,.one (.dp [.v (.int .i64 k0),.v (.string (bs x0)),.v (.string (bs y0)),e0.d,f0.d,cd0.d,.sl zAr (ar0.map Ar.r),.sl zSm (th0.map Sm.r),.sl zSm (el0.map Sm.r),.v (.int .i64 no0)])),(4,true,.one (.s 15)),(19,true,.one (.d (.sl zAr (ar0.map Ar.r)))),(20,true,.one (.v (.int .i64 (ar0.length:Int)))),(21,true,.one (.v (.int .i64 (l.length:Int))))],[(0,.vec 0 zFr [frC q]),(1,.vec 0 zMc [mcC q.P q.m]),(2,.mp true (vsC q.vs)),(15,.vec 0 [.v (.bool false),.v (.int .i64 0),.v (.string (bs []))] ((I5 l ar0.length).map Va.c))]⟩)
  (fun l=>ar0.length-l.length) [] ⟨Nat.zero_le _,(lk _).symm⟩ ?_ ?_
 ·refine A2 [] ?_;simp only[↓eB,seval,go_sem,↓A1,lm,tE]
 ·rintro l ⟨hi,hJ⟩
  refine Aq [Bd,JC N (OP N),Ca,C0,Ba N n hu] [(11,[.fz 15])] _ _ _ ?_
  have w1:IntKind.i64.wrap ((l.length:Int)+1)=((l.length+1:Nat):Int):=by rw[wrap_i64 (by omega) (by omega)];rfl
  have fl1:=lp hi
  cases hx:ar0[l.length]? with
  |some x=>
   have hlt:=(List.getElem?_eq_some_iff.1 hx).1
   have h1:=B9 hlt
   have h2:=A4U hx
   have hfs:=lr hlt
   have hgt:=lu hlt
   have hxd:x.e.dp<N:=had x (List.mem_of_getElem? hx)
   rw[Bn hx]at hJ
   cases hp:x.p with
   |true=>
    have hJ2:∀v,(FT q.vs x.s).s=v→F1 q.P q.m q.vs ar0=apE (l++[⟨true,0,v⟩]) (F1 q.P q.m q.vs (ar0.drop (l.length+1))):=fun v hv=>by rw[hJ,A4V hp,hv]
    cases hv:B0 q.vs x.s with
    |none=>
     have hv2:(FT q.vs x.s).s=[]:=by unfold FT;rw[hv];rfl
     simp only[↓eB,seval,go_sem,↓A1,Be,Bf,Bg,Bh,Va.c,Option.isSome_some,Option.isSome_none,Ev.b,Ev.vl,evA,evW,va0,Bd,Cb,Ce,Bc,B3,BL,CK,CL,BZ,BR,Aw,BC,Ca,D0,D1,Bt,Bz,BI,Bq,C0,Bb,Ba,B7,Ao,Aj,C6,BW,Bu,AE,AF,BJ,BV,CF,CG,DP,DQ,CB,CC,CE,cSl,Fn.c,h1,h2,hp,hv,w1,hfs,hgt,fl1]
     try simp only[A3,A4]
     repeat' first|exact ck|with_reducible apply And.intro|intro _
     all_goals try first|exact hlt|(rename_i h;first|exact oI h|exact nah h)|(rename_i _ h _ g;exact sL h g)|decide|omega
     refine⟨l++[⟨true,0,[]⟩],⟨by rw[length_append];exact hlt,by rw[length_append];exact hJ2 _ hv2⟩,by rw[length_append];show ar0.length-(l.length+1)<_;omega,A2 [] ?_⟩
     simp only[↓eB,seval,go_sem,↓A1,length_append,Vn]
    |some u=>
     have hv2:(FT q.vs x.s).s=u.s:=by unfold FT;rw[hv];rfl
     simp only[↓eB,seval,go_sem,↓A1,Be,Bf,Bg,Bh,Va.c,Option.isSome_some,Option.isSome_none,Ev.b,Ev.vl,evA,evW,va0,Bd,Cb,Ce,Bc,B3,BL,CK,CL,BZ,BR,Aw,BC,Ca,D0,D1,Bt,Bz,BI,Bq,C0,Bb,Ba,B7,Ao,Aj,C6,BW,Bu,AE,AF,BJ,BV,CF,CG,DP,DQ,CB,CC,CE,cSl,Fn.c,h1,h2,hp,hv,w1,hfs,hgt,fl1]
     try simp only[A3,A4]
     repeat' first|exact ck|with_reducible apply And.intro|intro _
     all_goals try first|exact hlt|(rename_i h;first|exact oI h|exact nah h)|(rename_i _ h _ g;exact sL h g)|decide|omega
     refine⟨l++[⟨true,0,u.s⟩],⟨by rw[length_append];exact hlt,by rw[length_append];exact hJ2 _ hv2⟩,by rw[length_append];show ar0.length-(l.length+1)<_;omega,A2 [] ?_⟩
     simp only[↓eB,seval,go_sem,↓A1,length_append,Vn]
   |false=>
    cases he:evF q.P q.m q.vs x.e with
    |no j=>
     have hA:F1 q.P q.m q.vs ar0= .no j:=by rw[hJ,zA hp he]
     have hI:FE (stF n) (.mk k0 x0 y0 e0 f0 cd0 ar0 th0 el0 no0) q=q.brk (.mk k0 x0 y0 e0 f0 cd0 ar0 th0 el0 no0) j:=tD hA
     simp only[↓eB,seval,go_sem,↓A1,Be,Bf,Bg,Bh,Va.c,Option.isSome_some,Option.isSome_none,Ev.b,Ev.vl,evA,evW,va0,Bd,Cb,Ce,Bc,B3,BL,CK,CL,BZ,BR,Aw,BC,Ca,D0,D1,Bt,Bz,BI,Bq,C0,Bb,Ba,B7,Ao,Aj,C6,BW,Bu,AE,AF,BJ,BV,CF,CG,DP,DQ,CB,CC,CE,cSl,Fn.c,h1,h2,hp,he,w1,hfs,hgt,fl1,hI,Fa.brk]
     try simp only[A3,A4]
     repeat' first|exact ck|with_reducible apply And.intro|intro _
     all_goals first|exact hlt|exact⟨hM.c,hxd⟩|exact hM.c|exact hxd|(rename_i h;first|exact oI h|exact nah h)|(rename_i _ h _ g;exact sL h g)|decide|omega|(refine A0 [] ?_;simp only[↓eB,seval,go_sem,bne,ET,C6,BW,Bu,A6,↓A1,Ev.b,Ev.vl,evA,evW,va0,Bd,Cb,Ce,Bc,B3,BL,CK,CL,BZ,BR,Aw,BC,Ca,D0,D1,Bt,Bz,BI,Bq,C0,Bb,Ba,B7,Ao,Aj,AE,AF,BJ,BV,CF,CG,DP,DQ,CB,CC,CE,cSl,Fn.c,hI,Fa.brk])
    |ok v=>
     have hJ2:F1 q.P q.m q.vs ar0=apE (l++[⟨false,v,[]⟩]) (F1 q.P q.m q.vs (ar0.drop (l.length+1))):=by rw[hJ,zB hp he]
     simp only[↓eB,seval,go_sem,↓A1,Be,Bf,Bg,Bh,Va.c,Option.isSome_some,Option.isSome_none,Ev.b,Ev.vl,evA,evW,va0,Bd,Cb,Ce,Bc,B3,BL,CK,CL,BZ,BR,Aw,BC,Ca,D0,D1,Bt,Bz,BI,Bq,C0,Bb,Ba,B7,Ao,Aj,C6,BW,Bu,AE,AF,BJ,BV,CF,CG,DP,DQ,CB,CC,CE,cSl,Fn.c,h1,h2,hp,he,w1,hfs,hgt,fl1]
     try simp only[A3,A4]
     repeat' first|exact ck|with_reducible apply And.intro|intro _
     all_goals try first|exact hlt|exact⟨hM.c,hxd⟩|exact hM.c|exact hxd|(rename_i h;first|exact oI h|exact nah h)|(rename_i _ h _ g;exact sL h g)|decide|omega
     refine⟨l++[⟨false,v,[]⟩],⟨by rw[length_append];exact hlt,by rw[length_append];exact hJ2⟩,by rw[length_append];show ar0.length-(l.length+1)<_;omega,A2 [] ?_⟩
     simp only[↓eB,seval,go_sem,↓A1,length_append,Vn]
  |none=>
   have h2:=List.getElem?_eq_none_iff.1 hx
   have h1:=BA h2
   have hll:l.length=ar0.length:=by omega
   rw[List.drop_eq_nil_of_le h2]at hJ
   have hA:F1 q.P q.m q.vs ar0= .ok l:=by rw[hJ];show Ev.ok (l++[])=_;rw[List.append_nil]
   have hfull:I5 l ar0.length=l:=lq hll
   have hl5:l.length≤5000:=by omega
   cases hf:q.P.fi y0 with
   |none=>
    have hI:FE (stF n) (.mk k0 x0 y0 e0 f0 cd0 ar0 th0 el0 no0) q=q.brk (.mk k0 x0 y0 e0 f0 cd0 ar0 th0 el0 no0) 4:=zC hA hf
    rcases tC q.P.fs with h0|⟨n0,p0,l0,b0,h0⟩
    ·simp only[↓eB,seval,go_sem,↓A1,Be,Bf,Bg,Bh,Va.c,Option.isSome_some,Option.isSome_none,Ev.b,Ev.vl,evA,evW,va0,Bd,Cb,Ce,Bc,B3,BL,CK,CL,BZ,BR,Aw,BC,Ca,D0,D1,Bt,Bz,BI,Bq,C0,Bb,Ba,B7,Ao,Aj,C6,BW,Bu,AE,AF,BJ,BV,CF,CG,DP,DQ,CB,CC,CE,cSl,Fn.c,h1,hf,hI,Fa.brk,hfull,h0,JD,V7,V6]
     try simp only[A3,A4]
     repeat' first|exact ck|with_reducible apply And.intro|intro _
     all_goals first|exact hl5|(rename_i h;first|exact oI h|exact nah h)|(rename_i _ h _ g;exact sL h g)|decide|omega|(refine A0 [] ?_;simp only[↓eB,seval,go_sem,bne,ET,C6,BW,Bu,A6,↓A1,Ev.b,Ev.vl,evA,evW,va0,Bd,Cb,Ce,Bc,B3,BL,CK,CL,BZ,BR,Aw,BC,Ca,D0,D1,Bt,Bz,BI,Bq,C0,Bb,Ba,B7,Ao,Aj,AE,AF,BJ,BV,CF,CG,DP,DQ,CB,CC,CE,cSl,Fn.c,hI,Fa.brk])
    ·simp only[↓eB,seval,go_sem,↓A1,Be,Bf,Bg,Bh,Va.c,Option.isSome_some,Option.isSome_none,Ev.b,Ev.vl,evA,evW,va0,Bd,Cb,Ce,Bc,B3,BL,CK,CL,BZ,BR,Aw,BC,Ca,D0,D1,Bt,Bz,BI,Bq,C0,Bb,Ba,B7,Ao,Aj,C6,BW,Bu,AE,AF,BJ,BV,CF,CG,DP,DQ,CB,CC,CE,cSl,Fn.c,h1,hf,hI,Fa.brk,hfull,h0,JD,V7,V6]
     try simp only[A3,A4]
     repeat' first|exact ck|with_reducible apply And.intro|intro _
     all_goals first|exact hl5|(rename_i h;first|exact oI h|exact nah h)|(rename_i _ h _ g;exact sL h g)|decide|omega|(refine A0 [] ?_;simp only[↓eB,seval,go_sem,bne,ET,C6,BW,Bu,A6,↓A1,Ev.b,Ev.vl,evA,evW,va0,Bd,Cb,Ce,Bc,B3,BL,CK,CL,BZ,BR,Aw,BC,Ca,D0,D1,Bt,Bz,BI,Bq,C0,Bb,Ba,B7,Ao,Aj,AE,AF,BJ,BV,CF,CG,DP,DQ,CB,CC,CE,cSl,Fn.c,hI,Fa.brk])
   |some i=>
    have hi2:=Pg.fi_lt hf
    have hg:=tB hi2
    have hgm:q.P.fs.getD i.toNat ⟨[],[],[],[]⟩∈q.P.fs:=by
     have:i.toNat<q.P.fs.length:=by omega
     rw[List.getD,List.getElem?_eq_getElem this];exact List.getElem_mem this
    obtain⟨gF,gB⟩:=hM.p.f _ hgm
    obtain⟨g,hgE⟩:∃g,q.P.fs.getD i.toNat ⟨[],[],[],[]⟩=g:=⟨_,rfl⟩
    rw[hgE]at hg gF gB
    obtain⟨gn,gps,gls,gb⟩:=g
    have gp5:gps.length≤5000:=gF.1
    cases hft:GS gps l with
    |false=>
     have hI:FE (stF n) (.mk k0 x0 y0 e0 f0 cd0 ar0 th0 el0 no0) q=q.brk (.mk k0 x0 y0 e0 f0 cd0 ar0 th0 el0 no0) 4:=zD hA hf hgE hft
     simp only[↓eB,seval,go_sem,↓A1,Be,Bf,Bg,Bh,Va.c,Option.isSome_some,Option.isSome_none,Ev.b,Ev.vl,evA,evW,va0,Bd,Cb,Ce,Bc,B3,BL,CK,CL,BZ,BR,Aw,BC,Ca,D0,D1,Bt,Bz,BI,Bq,C0,Bb,Ba,B7,Ao,Aj,C6,BW,Bu,AE,AF,BJ,BV,CF,CG,DP,DQ,CB,CC,CE,cSl,Fn.c,h1,hf,hg,hft,hI,Fa.brk,hfull,JD]
     try simp only[A3,A4]
     repeat' first|exact ck|with_reducible apply And.intro|intro _
     all_goals first|exact hl5|exact gp5|exact⟨gp5,hl5⟩|exact hi2.1|exact hi2.2|(rename_i h;first|exact oI h|exact nah h)|(rename_i _ h _ g;exact sL h g)|decide|omega|(refine A0 [] ?_;simp only[↓eB,seval,go_sem,bne,ET,C6,BW,Bu,A6,↓A1,Ev.b,Ev.vl,evA,evW,va0,Bd,Cb,Ce,Bc,B3,BL,CK,CL,BZ,BR,Aw,BC,Ca,D0,D1,Bt,Bz,BI,Bq,C0,Bb,Ba,B7,Ao,Aj,AE,AF,BJ,BV,CF,CG,DP,DQ,CB,CC,CE,cSl,Fn.c,hI,Fa.brk])
    |true=>
     obtain⟨R,hR⟩:∃R,Io (stF n) q.P ⟨gn,gps,gls,gb⟩ l q.m=R:=⟨_,rfl⟩
     have hI:FE (stF n) (.mk k0 x0 y0 e0 f0 cd0 ar0 th0 el0 no0) q=RW (.mk k0 x0 y0 e0 f0 cd0 ar0 th0 el0 no0) q R:=by rw[← hR];exact zE hA hf hgE hft
     have hk:=bZ (SP n) q ⟨gn,gps,gls,gb⟩ l hM.l (by have h7:=hM.u;omega)
     rw[hR]at hk
     obtain⟨rb,rv,rm⟩:=R
     have hm2:okMs N n { q with m:=rm }:=hM.kq hk (by have h7:rm.fuel≤q.m.fuel:=hk.u;have:=hM.u;show rm.fuel<_;omega)
     have hm3:okMs N n ⟨[],0,q.P,q.m,[]⟩:=⟨hM.p,hM.c,hM.a,hM.l,hM.u⟩
     have hmC:okC q.P rm:=hm2.c
     cases rb with
     |true=>
      have hI2:FE (stF n) (.mk k0 x0 y0 e0 f0 cd0 ar0 th0 el0 no0) q=⟨true,false,{ q with m:=rm }⟩:=hI
      simp only[↓eB,seval,go_sem,↓A1,Be,Bf,Bg,Bh,Va.c,Option.isSome_some,Option.isSome_none,Ev.b,Ev.vl,evA,evW,va0,Bd,Cb,Ce,Bc,B3,BL,CK,CL,BZ,BR,Aw,BC,Ca,D0,D1,Bt,Bz,BI,Bq,C0,Bb,Ba,B7,Ao,Aj,C6,BW,Bu,AE,AF,BJ,BV,CF,CG,DP,DQ,CB,CC,CE,cSl,Fn.c,h1,hf,hg,hft,hI2,hfull,JD,V5,hR]
      try simp only[A3,A4]
      repeat' first|exact ck|with_reducible apply And.intro|intro _
      all_goals first|exact hl5|exact gp5|exact⟨gp5,hl5⟩|exact hi2.1|exact hi2.2|exact hm3|exact⟨gF,gB⟩|exact gF|exact gB|exact hft|(rename_i h;first|exact oI h|exact nah h)|(rename_i _ h _ g;exact sL h g)|decide|omega|(refine A0 [] ?_;simp only[↓eB,seval,go_sem,bne,ET,C6,BW,Bu,A6,↓A1,Ev.b,Ev.vl,evA,evW,va0,Bd,Cb,Ce,Bc,B3,BL,CK,CL,BZ,BR,Aw,BC,Ca,D0,D1,Bt,Bz,BI,Bq,C0,Bb,Ba,B7,Ao,Aj,AE,AF,BJ,BV,CF,CG,DP,DQ,CB,CC,CE,cSl,Fn.c,hI2])
     |false=>
      cases hx0:(x0==[]) with
      |true=>
       have hI2:FE (stF n) (.mk k0 x0 y0 e0 f0 cd0 ar0 th0 el0 no0) q=Fa.go { q with m:=rm }:=by rw[hI];unfold RW;rw[if_neg (by simp),if_pos (show ((Sm.mk k0 x0 y0 e0 f0 cd0 ar0 th0 el0 no0).x==[])=true from hx0)]
       simp only[↓eB,seval,go_sem,↓A1,Be,Bf,Bg,Bh,Va.c,Option.isSome_some,Option.isSome_none,Ev.b,Ev.vl,evA,evW,va0,Bd,Cb,Ce,Bc,B3,BL,CK,CL,BZ,BR,Aw,BC,Ca,D0,D1,Bt,Bz,BI,Bq,C0,Bb,Ba,B7,Ao,Aj,C6,BW,Bu,AE,AF,BJ,BV,CF,CG,DP,DQ,CB,CC,CE,cSl,Fn.c,h1,hf,hg,hft,hI2,hfull,JD,V5,hR,hx0,bne,Fa.go]
       try simp only[A3,A4]
       repeat' first|exact ck|with_reducible apply And.intro|intro _
       all_goals first|exact hl5|exact gp5|exact⟨gp5,hl5⟩|exact hi2.1|exact hi2.2|exact hm3|exact⟨gF,gB⟩|exact gF|exact gB|exact hft|(rename_i h;first|exact oI h|exact nah h)|(rename_i _ h _ g;exact sL h g)|decide|omega|(refine A0 [] ?_;simp only[↓eB,seval,go_sem,bne,ET,C6,BW,Bu,A6,↓A1,Ev.b,Ev.vl,evA,evW,va0,Bd,Cb,Ce,Bc,B3,BL,CK,CL,BZ,BR,Aw,BC,Ca,D0,D1,Bt,Bz,BI,Bq,C0,Bb,Ba,B7,Ao,Aj,AE,AF,BJ,BV,CF,CG,DP,DQ,CB,CC,CE,cSl,Fn.c,hI2,Fa.go])
      |false=>
       obtain⟨A,hAs⟩:∃A,F2 { q with m:=rm } (.mk k0 x0 y0 e0 f0 cd0 ar0 th0 el0 no0) rv=A:=⟨_,rfl⟩
       have hI2:FE (stF n) (.mk k0 x0 y0 e0 f0 cd0 ar0 th0 el0 no0) q=A:=by rw[hI,← hAs];unfold RW;rw[if_neg (by simp),if_neg (by rw[show ((Sm.mk k0 x0 y0 e0 f0 cd0 ar0 th0 el0 no0).x==[])=false from hx0];decide)]
       have hat:A.t=false:=by rw[← hAs];exact SQ _ _ _
       obtain⟨ab,at1,aq⟩:=A
       cases ab with
       |true=>
        simp only[↓eB,seval,go_sem,↓A1,Be,Bf,Bg,Bh,Va.c,Option.isSome_some,Option.isSome_none,Ev.b,Ev.vl,evA,evW,va0,Bd,Cb,Ce,Bc,B3,BL,CK,CL,BZ,BR,Aw,BC,Ca,D0,D1,Bt,Bz,BI,Bq,C0,Bb,Ba,B7,Ao,Aj,C6,BW,Bu,AE,AF,BJ,BV,CF,CG,DP,DQ,CB,CC,CE,cSl,Fn.c,h1,hf,hg,hft,hI2,hfull,JD,V5,hR,hx0,bne,hAs]
        try simp only[A3,A4]
        repeat' first|exact ck|with_reducible apply And.intro|intro _
        all_goals first|exact hl5|exact gp5|exact⟨gp5,hl5⟩|exact hi2.1|exact hi2.2|exact hm3|exact⟨gF,gB⟩|exact gF|exact gB|exact hft|(exact fun _=>hmC)|(rename_i h;first|exact oI h|exact nah h)|(rename_i _ h _ g;exact sL h g)|decide|omega|(refine A0 [] ?_;simp only[↓eB,seval,go_sem,bne,ET,C6,BW,Bu,A6,↓A1,Ev.b,Ev.vl,evA,evW,va0,Bd,Cb,Ce,Bc,B3,BL,CK,CL,BZ,BR,Aw,BC,Ca,D0,D1,Bt,Bz,BI,Bq,C0,Bb,Ba,B7,Ao,Aj,AE,AF,BJ,BV,CF,CG,DP,DQ,CB,CC,CE,cSl,Fn.c,hI2])
       |false=>
        simp only[↓eB,seval,go_sem,↓A1,Be,Bf,Bg,Bh,Va.c,Option.isSome_some,Option.isSome_none,Ev.b,Ev.vl,evA,evW,va0,Bd,Cb,Ce,Bc,B3,BL,CK,CL,BZ,BR,Aw,BC,Ca,D0,D1,Bt,Bz,BI,Bq,C0,Bb,Ba,B7,Ao,Aj,C6,BW,Bu,AE,AF,BJ,BV,CF,CG,DP,DQ,CB,CC,CE,cSl,Fn.c,h1,hf,hg,hft,hI2,hfull,JD,V5,hR,hx0,bne,hAs]
        try simp only[A3,A4]
        repeat' first|exact ck|with_reducible apply And.intro|intro _
        all_goals first|exact hl5|exact gp5|exact⟨gp5,hl5⟩|exact hi2.1|exact hi2.2|exact hm3|exact⟨gF,gB⟩|exact gF|exact gB|exact hft|(exact fun _=>hmC)|(rename_i h;first|exact oI h|exact nah h)|(rename_i _ h _ g;exact sL h g)|decide|omega|(refine A0 [] ?_;simp only[↓eB,seval,go_sem,bne,ET,C6,BW,Bu,A6,↓A1,Ev.b,Ev.vl,evA,evW,va0,Bd,Cb,Ce,Bc,B3,BL,CK,CL,BZ,BR,Aw,BC,Ca,D0,D1,Bt,Bz,BI,Bq,C0,Bb,Ba,B7,Ao,Aj,AE,AF,BJ,BV,CF,CG,DP,DQ,CB,CC,CE,cSl,Fn.c,hI2])
end Go.Proofs.Ytjnnmindcbgjhaa
