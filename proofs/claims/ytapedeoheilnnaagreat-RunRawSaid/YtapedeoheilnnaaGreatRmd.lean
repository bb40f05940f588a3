/- Calls as statements, walked. No conditions but those in each statement. -/
import Derived.Test.YtapedeoheilnnaaGreatRmc
set_option linter.all false
open Option (isSome_some isSome_none)
open List (length_append)
namespace Go.Proofs.YtapedeoheilnnaaGreat
open Go Go.Sy Go.RowKit
variable{l:List Va}{x:Ar}{st:Sm->Fa->Ro}{s:Sm}{q:Fa}{k:Nat}{i:Int}{P:Pg}{m:Ms}{vs:Vs}{r:List Ar}
theorem yu{P:Prop}(h:P:=by (repeat' first|exact ck|with_reducible apply And.intro|intro _);all_goals first|exact hl5|exact KZ|(refine A1 [] ?_;simp only[seval,go_sem,bne,Jk,E6,Dk,Dw,A5,↓A0,Ev.b,Ev.vl,evA,evW,va0,CV,Ds,Dt,DG,Cv,D4,DZ,Da,DA,D9,Cm,Cw,Dv,Ea,Eb,Dc,Du,Db,Dj,D5,CZ,CW,CI,BX,BS,AE,AF,Af,Ag,DW,DX,Et,Eu,DR,DS,DT,cSl,Fn.c,hI,Fa.brk])):P:=h
theorem yw{P:Prop}(h:P:=by (repeat' first|exact ck|with_reducible apply And.intro|intro _);all_goals first|exact hl5|exact gp5|exact⟨gp5,hl5⟩|exact hi2.1|exact hi2.2|exact hm3|exact⟨gF,gB⟩|exact gF|exact gB|exact hft|(exact λ_=>hmC)|exact KZ|(refine A1 [] ?_;simp only[seval,go_sem,bne,Jk,E6,Dk,Dw,A5,↓A0,Ev.b,Ev.vl,evA,evW,va0,CV,Ds,Dt,DG,Cv,D4,DZ,Da,DA,D9,Cm,Cw,Dv,Ea,Eb,Dc,Du,Db,Dj,D5,CZ,CW,CI,BX,BS,AE,AF,Af,Ag,DW,DX,Et,Eu,DR,DS,DT,cSl,Fn.c,hI2])):P:=h
theorem yx{l:List Ar}{i:Nat}(h:l[i]?=some x)(z:List D):(l.map Ar.r).getD i z=[.v (.bool x.p),.v (.string (bs x.s)),x.e.d]:=by simp[List.getD,h,Ar.r,dS]
theorem yz{l:List Fn}(h:0<=i/\i<(l.length:Int))(z:List D):(l.map Fn.r).getD i.toNat z=[.v (.string (bs (l.getD i.toNat ⟨[],[],[],[]⟩).name)),.sl zVr ((l.getD i.toNat ⟨[],[],[],[]⟩).ps.map Vr.r),.sl zVr ((l.getD i.toNat ⟨[],[],[],[]⟩).ls.map Vr.r),.sl zSm ((l.getD i.toNat ⟨[],[],[],[]⟩).body.map Sm.r)]:=by
 have h1:i.toNat<l.length:=by omega
 simp[List.getD,h1,Fn.r,dS]
theorem Yz(k:Nat)(z:List D)(es:List (List D))(vs:Vs):(vsC vs).map (λp=>(p.1,p.2.map (fzC k z es)))=vsC vs:=DB λp hp=>by
 obtain⟨a,_,rfl⟩:=List.mem_map.1 hp
 rfl
theorem Z0:List.drop 1 zFn=[.v (.slice none 0 0),.v (.slice none 0 0),.v (.slice none 0 0)]:=rfl
theorem Z1:cVq.d (.one (.v (.slice none 0 0)))=some []:=ED (e:=λl:List Vr=>.one (.d (.sl zVr (l.map Vr.r)))) (a:=[]) (Or.inr ⟨rfl,rfl⟩)
theorem z7(l:List Fn):(∀z,(l.map Fn.r).getD 0 z=z)∨∃(n:List UInt8) (ps ls:List Vr) (bd:List Sm),∀z,(l.map Fn.r).getD 0 z=[.v (.string (bs n)),.sl zVr (ps.map Vr.r),.sl zVr (ls.map Vr.r),.sl zSm (bd.map Sm.r)]:=by
 cases l with
 |nil=>exact .inl λz=>rfl
 |cons f r=>exact .inr ⟨f.name,f.ps,f.ls,f.body,λz=>rfl⟩
def apE(l:List Va):Ev (List Va)->Ev (List Va)
 | .ok r=>.ok (l++r)
 | .no k=>.no k
theorem tp(e:Ev (List Va)):apE [] e=e:=by cases e<;>rfl
theorem A7U(h:x.p=true):apE l (FV P m vs (x::r))=apE (l++[⟨true,0,(G1 vs x.s).s⟩]) (FV P m vs r):=by
 simp only[FV]
 rw[if_pos h]
 cases FV P m vs r with
 |ok t=>simp[apE]
 |no k=>rfl
theorem A3x{j:Int}(h:x.p=false)(he:evF P m vs x.e= .no j):apE l (FV P m vs (x::r))= .no j:=by
 simp only[FV]
 rw[if_neg (by rw[h];decide),he];rfl
theorem A3y{v:Int}(h:x.p=false)(he:evF P m vs x.e= .ok v):apE l (FV P m vs (x::r))=apE (l++[⟨false,v,[]⟩]) (FV P m vs r):=by
 simp only[FV]
 rw[if_neg (by rw[h];decide),he]
 dsimp only
 cases FV P m vs r with
 |ok t=>simp[apE]
 |no k=>rfl
theorem jC{j:Int}(h:FV q.P q.m q.vs s.ar= .no j):GE st s q=q.brk s j:=by unfold GE;rw[h]
theorem qX(h:FV q.P q.m q.vs s.ar= .ok l)(hf:q.P.fi s.y=none):GE st s q=q.brk s 4:=by unfold GE;rw[h];dsimp only;rw[hf]
theorem qY{g:Fn}(h:FV q.P q.m q.vs s.ar= .ok l)(hf:q.P.fi s.y=some i)(hg:q.P.fs.getD i.toNat ⟨[],[],[],[]⟩=g)(hft:Dn g.ps l=false):GE st s q=q.brk s 4:=by
 unfold GE;rw[h];dsimp only;rw[hf];dsimp only;rw[hg,if_pos hft]
theorem qZ{g:Fn}(h:FV q.P q.m q.vs s.ar= .ok l)(hf:q.P.fi s.y=some i)(hg:q.P.fs.getD i.toNat ⟨[],[],[],[]⟩=g)(hft:Dn g.ps l=true):GE st s q=RF s q (II st q.P g l q.m):=by
 unfold GE;rw[h];dsimp only;rw[hf];dsimp only;rw[hg,if_neg (by rw[hft];decide)]
theorem VW(q:Fa)(s:Sm)(v:Int):(FW q s v).t=false:=by
 unfold FW
 split
 .rfl
 split<;>rfl
def JL(l:List Va)(k:Nat):List Va:=l++List.replicate (k-l.length) va0
theorem tq(k:Nat):(JL [] k).map Va.c=List.replicate k [.v (.bool false),.v (.int .i64 0),.v (.string (bs []))]:=by
 show (([]:List Va)++List.replicate (k-0) va0).map Va.c=_
 rw[List.nil_append,Nat.sub_zero,List.map_replicate];rfl
theorem tt(h:l.length<=k):(JL l k).length=k:=by
 unfold JL;rw[length_append,List.length_replicate];omega
theorem tu(h:l.length=k):JL l k=l:=by
 unfold JL;rw[h,Nat.sub_self];simp
theorem tv(h:l.length<k)(p:Bool)(n:Int)(s:List UInt8):((JL l k).map Va.c).set l.length [.v (.bool p),.v (.int .i64 n),.v (.string (bs s))]=(JL (l++[⟨p,n,s⟩]) k).map Va.c:=by
 have e:((JL l k).map Va.c).set l.length (Va.c ⟨p,n,s⟩)=((JL l k).set l.length ⟨p,n,s⟩).map Va.c:=(List.map_set (f:=Va.c) (a:=(⟨p,n,s⟩:Va))).symm
 have e2:(JL l k).set l.length ⟨p,n,s⟩=JL (l++[⟨p,n,s⟩]) k:=by
  unfold JL
  rw[List.set_append_right _ _ (Nat.le_refl _),Nat.sub_self]
  obtain⟨j,hj⟩:∃j,k-l.length=j+1:=⟨k-l.length-1,by omega⟩
  rw[hj,List.replicate_succ,List.set_cons_zero,length_append,show k-(l.length+[(⟨p,n,s⟩:Va)].length)=j by simp only[List.length_cons,List.length_nil];omega]
  simp
 rw[<- e2];exact e
theorem tw(h:l.length<k)(z:List C):((JL l k).map Va.c).getD l.length z=[.v (.bool false),.v (.int .i64 0),.v (.string (bs []))]:=by
 have h1:(JL l k)[l.length]?=some va0:=by
  unfold JL
  rw[List.getElem?_append_right (Nat.le_refl _),Nat.sub_self,List.getElem?_replicate,if_pos (by omega)]
 rw[List.getD,List.getElem?_map,h1];rfl
theorem z8(n:Nat)(a b c:Value):List.flatMap (λl=>List.flatMap C.names l) (List.replicate n [C.v a,C.v b,C.v c])=[]:=List.flatMap_eq_nil_iff.2 λr hr=>by
 rw[List.eq_of_mem_replicate hr];rfl
theorem A3z(a:Va):∀c∈a.c,c.names=[]:=by
 intro c hc
 simp only[Va.c,List.mem_cons,List.not_mem_nil,or_false]at hc
 rcases hc with rfl|rfl|rfl<;>rfl
theorem Zf(l:List Va):List.flatMap (λr=>List.flatMap C.names r) (l.map Va.c)=[]:=List.flatMap_eq_nil_iff.2 λr hr=>by
 obtain⟨a,_,rfl⟩:=List.mem_map.1 hr
 exact List.flatMap_eq_nil_iff.2 (A3z a)
theorem KQ(l:List Va):ES (l.map Va.c)=some (l.map Va.r):=He Va.c (λ_=>rfl) l
abbrev tx(N:Nat)(n:Nat)(q:Fa)(s:Sm):Prop:=okT N s/\okMs N n q/\n<=1000000000
abbrev E6(N:Nat)(n:Nat)(q:Fa)(s:Sm):Bool:=(GE (stF n) s q).b
abbrev Dk(N:Nat)(n:Nat)(q:Fa)(s:Sm):Fa:=(GE (stF n) s q).q
abbrev Dw(N:Nat)(n:Nat)(q:Fa)(s:Sm):Fa:=(GE (stF n) s q).q
abbrev Jk(N:Nat)(n:Nat)(q:Fa)(s:Sm):SV:=.tup []
theorem u3:∀b,∀v∈ArgC.e (acS (cSp) ac0) b,v.tupB=false:=by rintro ⟨x0,_⟩ v hv;simp only[FM,FL,List.mem_cons,List.not_mem_nil,or_false]at hv;subst hv<;>first|rfl|exact FD _|exact FE _
noncomputable abbrev TS:ArgL (Fa×(Sm)×Unit):=amFr (acS (cSp) ac0) u3
abbrev Q0(N:Nat)(n:Nat):Prop:=DY Tryz.prog 112 (TS).args (TS).mem (λp:(Fa×(Sm)×Unit)=>tx N n p.1 p.2.1) (λp:(Fa×(Sm)×Unit)=>E6 N n p.1 p.2.1) (λp:(Fa×(Sm)×Unit)=>Jk N n p.1 p.2.1) (λp:(Fa×(Sm)×Unit)=>Fa.memO (Dk N n p.1 p.2.1)) (λp:(Fa×(Sm)×Unit)=>mlO (Fa.pan (Dw N n p.1 p.2.1)))
noncomputable def XD{X:Ctx}{w0:World}(N:Nat)(n:Nat)(h:Q0 N n):Sy.Spec Tryz.prog X w0:=DL 112 Tryz.call112 (TS) _ _ _ _ _ (id (by exact λp _ _=>have h:=Ee p.1 (Dk N n p.1 p.2.1);⟨h.1,h.2.1,rfl,h.2.2⟩)) (id (by exact λp _ _=>JG p.1 (Dw N n p.1 p.2.1))) (id (by exact λp _ _=>⟨(Ee p.1 (Dk N n p.1 p.2.1)).1,rfl⟩)) KF3 h
theorem u4{X:Ctx}{w0:World}(N:Nat)(n:Nat)(h:Q0 N n):(XD (X:=X) (w0:=w0) N n h).f=112:=rfl
def u5{X:Ctx}{w0:World}(N:Nat)(n:Nat)(h:Q0 N n)(t:Nat)(args:List SV)(H:Hp):=@id ((XD (X:=X) (w0:=w0) N n h).fn t args H=spL X _ t H _ _ _ _ _) rfl
attribute [local go_sem] Fa.mem Fa.memO Fa.pan ML.ch ML.ren Sm.ar Sm.cd Sm.e Sm.el Sm.f Sm.k Sm.no Sm.th Sm.x Sm.y HA H9 HB Dd CS CR CA CP CQ L9 L8 DO DN chL J0 FG FF H7 fcN JC frC J1 H8 lmH lmO Gg ID IE mcC J2 IC mcW DJ Cg Ci EG nmX AB AA Dq De Cx Cy EK EJ GJ GI E1 EH rnC Fl AN Cf DP Cr CO EE vrQ J3 JD
set_option maxRecDepth 20000 in set_option maxHeartbeats 64000000 in
attribute[local go_sem] xt in
theorem z9(N:Nat)(n:Nat)(hu:UR N n):Q0 N n:=by
 rintro ⟨q,s,_u⟩ w M I lab fz xs hc hA hl hx
 refine Bn Tryz.func112 rfl (Fa.mem q) w M I lab fz (E6 N n q s) (Fa.pan (Dw N n q s)) (Fa.memO (Dk N n q s)) [CV,(KO N (Px N)),Dv,D5,(CW N n hu)] [(11,[.fz 15])] ((TS).args ⟨q,s,_u⟩) (Jk N n q s) xs hA hl hx (Ht _ _ _ _) (jN rfl) (Nat.le_refl _) rfl (JH _) ?_
 clear hx hl hA xs
 simp only[Tryz.f112]
 obtain⟨hT,hM,hn⟩:=hc
 dsimp only at hT hM hn
 have hal:s.ar.length<=5000:=hT.k.l
 have had:∀a∈s.ar,a.e.dp<N:=hT.k.a
 obtain⟨k0,x0,y0,e0,f0,cd0,ar0,th0,el0,no0⟩:=s
 dsimp only[Sm.ar]at hal had
 simp only[seval,go_sem,↓A0,CB,CC,CE,CF,Va.c,isSome_some,isSome_none,Ev.b,Ev.vl,evA,evW,va0,CV,Ds,Dt,DG,Cv,D4,DZ,Da,DA,D9,Cm,Cw,Dv,Ea,Eb,Dc,Du,Db,Dj,D5,CZ,CW,CI,BX,BS,E6,Dk,Dw,AE,AF,Af,Ag,DW,DX,Et,Eu,DR,DS,DT,cSl,Fn.c]
 try simp only[A2,A3]
 repeat' (first|exact ck|with_reducible apply And.intro)
 all_goals try first|exact hal|decide|omega
 refine AK (Y:=List Va) (λl=>l.length<=ar0.length/\FV q.P q.m q.vs ar0=apE l (FV q.P q.m q.vs (ar0.drop l.length)))
  (λl=>⟨[(0,true,.one (.p 0 0 0)),(1,true,.one (.dp [.v (.int .i64 k0),.v (.string (bs x0)),.v (.string (bs y0)),e0.d,f0.d,cd0.d,.sl zAr (ar0.map Ar.r),.sl zSm (th0.map Sm.r),.sl zSm (el0.map Sm.r),.v (.int .i64 no0)])),(4,true,.one (.s 15)),(19,true,.one (.d (.sl zAr (ar0.map Ar.r)))),(20,true,.one (.v (.int .i64 (ar0.length:Int)))),(21,true,.one (.v (.int .i64 (l.length:Int))))],[(0,.vec 0 zFr [frC q]),(1,.vec 0 zMc [mcC q.P q.m]),(2,.mp true (vsC q.vs)),(15,.vec 0 [.v (.bool false),.v (.int .i64 0),.v (.string (bs []))] ((JL l ar0.length).map Va.c))]⟩)
  (λl=>ar0.length-l.length) [] ⟨Nat.zero_le _,(tp _).symm⟩ ?_ ?_
 .refine A4 [] ?_;simp only[seval,go_sem,↓A0,tq,z8]
 rintro l ⟨hi,hJ⟩
 refine AZ [CV,KO N (Px N),Dv,D5,CW N n hu] [(11,[.fz 15])] _ _ _ ?_
 have w1:IntKind.i64.wrap ((l.length:Int)+1)=((l.length+1:Nat):Int):=by rw[wrap_i64 (by omega) (by omega)];rfl
 have fl1:=tt hi
 cases hx:ar0[l.length]? with
 |some x=>
  have hlt:=(List.getElem?_eq_some_iff.1 hx).1
  have h1:=B8 hlt
  have h2:=yx hx
  have hfs:=tv hlt
  have hgt:=tw hlt
  have hxd:x.e.dp<N:=had x (List.mem_of_getElem? hx)
  rw[BJ hx]at hJ
  cases hp:x.p with
  |true=>
   have hJ2:∀v,(G1 q.vs x.s).s=v->FV q.P q.m q.vs ar0=apE (l++[⟨true,0,v⟩]) (FV q.P q.m q.vs (ar0.drop (l.length+1))):=λv hv=>by rw[hJ,A7U hp,hv]
   cases hv:AD q.vs x.s with
   |none=>
    have hv2:(G1 q.vs x.s).s=[]:=by unfold G1;rw[hv];rfl
    simp only[seval,go_sem,↓A0,CB,CC,CE,CF,Va.c,isSome_some,isSome_none,Ev.b,Ev.vl,evA,evW,va0,CV,Ds,Dt,DG,Cv,D4,DZ,Da,DA,D9,Cm,Cw,Dv,Ea,Eb,Dc,Du,Db,Dj,D5,CZ,CW,CI,BX,BS,E6,Dk,Dw,AE,AF,Af,Ag,DW,DX,Et,Eu,DR,DS,DT,cSl,Fn.c,h1,h2,hp,hv,w1,hfs,hgt,fl1]
    try simp only[A2,A3]
    repeat' first|exact ck|with_reducible apply And.intro|intro _
    all_goals try first|exact hlt|exact KZ
    refine⟨l++[⟨true,0,[]⟩],⟨by rw[length_append];exact hlt,by rw[length_append];exact hJ2 _ hv2⟩,by rw[length_append];show ar0.length-(l.length+1)<_;omega,A4 [] ?_⟩
    simp only[seval,go_sem,↓A0,length_append,Zf]
   |some u=>
   have hv2:(G1 q.vs x.s).s=u.s:=by unfold G1;rw[hv];rfl
   simp only[seval,go_sem,↓A0,CB,CC,CE,CF,Va.c,isSome_some,isSome_none,Ev.b,Ev.vl,evA,evW,va0,CV,Ds,Dt,DG,Cv,D4,DZ,Da,DA,D9,Cm,Cw,Dv,Ea,Eb,Dc,Du,Db,Dj,D5,CZ,CW,CI,BX,BS,E6,Dk,Dw,AE,AF,Af,Ag,DW,DX,Et,Eu,DR,DS,DT,cSl,Fn.c,h1,h2,hp,hv,w1,hfs,hgt,fl1]
   try simp only[A2,A3]
   repeat' first|exact ck|with_reducible apply And.intro|intro _
   all_goals try first|exact hlt|exact KZ
   refine⟨l++[⟨true,0,u.s⟩],⟨by rw[length_append];exact hlt,by rw[length_append];exact hJ2 _ hv2⟩,by rw[length_append];show ar0.length-(l.length+1)<_;omega,A4 [] ?_⟩
   simp only[seval,go_sem,↓A0,length_append,Zf]
  |false=>
  cases he:evF q.P q.m q.vs x.e with
  |no j=>
   have hA:FV q.P q.m q.vs ar0= .no j:=by rw[hJ,A3x hp he]
   have hI:GE (stF n) (.mk k0 x0 y0 e0 f0 cd0 ar0 th0 el0 no0) q=q.brk (.mk k0 x0 y0 e0 f0 cd0 ar0 th0 el0 no0) j:=jC hA
   simp only[seval,go_sem,↓A0,CB,CC,CE,CF,Va.c,isSome_some,isSome_none,Ev.b,Ev.vl,evA,evW,va0,CV,Ds,Dt,DG,Cv,D4,DZ,Da,DA,D9,Cm,Cw,Dv,Ea,Eb,Dc,Du,Db,Dj,D5,CZ,CW,CI,BX,BS,E6,Dk,Dw,AE,AF,Af,Ag,DW,DX,Et,Eu,DR,DS,DT,cSl,Fn.c,h1,h2,hp,he,w1,hfs,hgt,fl1,hI,Fa.brk]
   try simp only[A2,A3]
   repeat' first|exact ck|with_reducible apply And.intro|intro _
   all_goals first|exact hlt|exact⟨hM.c,hxd⟩|exact hM.c|exact hxd|exact KZ|(refine A1 [] ?_;simp only[seval,go_sem,bne,Jk,E6,Dk,Dw,A5,↓A0,Ev.b,Ev.vl,evA,evW,va0,CV,Ds,Dt,DG,Cv,D4,DZ,Da,DA,D9,Cm,Cw,Dv,Ea,Eb,Dc,Du,Db,Dj,D5,CZ,CW,CI,BX,BS,AE,AF,Af,Ag,DW,DX,Et,Eu,DR,DS,DT,cSl,Fn.c,hI,Fa.brk])
  |ok v=>
  have hJ2:FV q.P q.m q.vs ar0=apE (l++[⟨false,v,[]⟩]) (FV q.P q.m q.vs (ar0.drop (l.length+1))):=by rw[hJ,A3y hp he]
  simp only[seval,go_sem,↓A0,CB,CC,CE,CF,Va.c,isSome_some,isSome_none,Ev.b,Ev.vl,evA,evW,va0,CV,Ds,Dt,DG,Cv,D4,DZ,Da,DA,D9,Cm,Cw,Dv,Ea,Eb,Dc,Du,Db,Dj,D5,CZ,CW,CI,BX,BS,E6,Dk,Dw,AE,AF,Af,Ag,DW,DX,Et,Eu,DR,DS,DT,cSl,Fn.c,h1,h2,hp,he,w1,hfs,hgt,fl1]
  try simp only[A2,A3]
  repeat' first|exact ck|with_reducible apply And.intro|intro _
  all_goals try first|exact hlt|exact⟨hM.c,hxd⟩|exact hM.c|exact hxd|exact KZ
  refine⟨l++[⟨false,v,[]⟩],⟨by rw[length_append];exact hlt,by rw[length_append];exact hJ2⟩,by rw[length_append];show ar0.length-(l.length+1)<_;omega,A4 [] ?_⟩
  simp only[seval,go_sem,↓A0,length_append,Zf]
 |none=>
 have h2:=List.getElem?_eq_none_iff.1 hx
 have h1:=B9 h2
 have hll:l.length=ar0.length:=by omega
 rw[List.drop_eq_nil_of_le h2]at hJ
 have hA:FV q.P q.m q.vs ar0= .ok l:=by rw[hJ];show Ev.ok (l++[])=_;rw[List.append_nil]
 have hfull:JL l ar0.length=l:=tu hll
 have hl5:l.length<=5000:=by omega
 cases hf:q.P.fi y0 with
 |none=>
  have hI:GE (stF n) (.mk k0 x0 y0 e0 f0 cd0 ar0 th0 el0 no0) q=q.brk (.mk k0 x0 y0 e0 f0 cd0 ar0 th0 el0 no0) 4:=qX hA hf
  rcases z7 q.P.fs with h0|⟨n0,p0,l0,b0,h0⟩
  .simp only[seval,go_sem,↓A0,CB,CC,CE,CF,Va.c,isSome_some,isSome_none,Ev.b,Ev.vl,evA,evW,va0,CV,Ds,Dt,DG,Cv,D4,DZ,Da,DA,D9,Cm,Cw,Dv,Ea,Eb,Dc,Du,Db,Dj,D5,CZ,CW,CI,BX,BS,E6,Dk,Dw,AE,AF,Af,Ag,DW,DX,Et,Eu,DR,DS,DT,cSl,Fn.c,h1,hf,hI,Fa.brk,hfull,h0,KQ,Z1,Z0]
   try simp only[A2,A3]
   try exact yu
  simp only[seval,go_sem,↓A0,CB,CC,CE,CF,Va.c,isSome_some,isSome_none,Ev.b,Ev.vl,evA,evW,va0,CV,Ds,Dt,DG,Cv,D4,DZ,Da,DA,D9,Cm,Cw,Dv,Ea,Eb,Dc,Du,Db,Dj,D5,CZ,CW,CI,BX,BS,E6,Dk,Dw,AE,AF,Af,Ag,DW,DX,Et,Eu,DR,DS,DT,cSl,Fn.c,h1,hf,hI,Fa.brk,hfull,h0,KQ,Z1,Z0]
  try simp only[A2,A3]
  try exact yu
 |some i=>
 have hi2:=Pg.fi_lt hf
 have hg:=yz hi2
 have hgm:q.P.fs.getD i.toNat ⟨[],[],[],[]⟩∈q.P.fs:=by
  have:i.toNat<q.P.fs.length:=by omega
  rw[List.getD,List.getElem?_eq_getElem this];exact List.getElem_mem this
 obtain⟨gF,gB⟩:=hM.p.f _ hgm
 obtain⟨g,hgE⟩:∃g,q.P.fs.getD i.toNat ⟨[],[],[],[]⟩=g:=⟨_,rfl⟩
 rw[hgE]at hg gF gB
 obtain⟨gn,gps,gls,gb⟩:=g
 have gp5:gps.length<=5000:=gF.1
 cases hft:Dn gps l with
 |false=>
  have hI:GE (stF n) (.mk k0 x0 y0 e0 f0 cd0 ar0 th0 el0 no0) q=q.brk (.mk k0 x0 y0 e0 f0 cd0 ar0 th0 el0 no0) 4:=qY hA hf hgE hft
  simp only[seval,go_sem,↓A0,CB,CC,CE,CF,Va.c,isSome_some,isSome_none,Ev.b,Ev.vl,evA,evW,va0,CV,Ds,Dt,DG,Cv,D4,DZ,Da,DA,D9,Cm,Cw,Dv,Ea,Eb,Dc,Du,Db,Dj,D5,CZ,CW,CI,BX,BS,E6,Dk,Dw,AE,AF,Af,Ag,DW,DX,Et,Eu,DR,DS,DT,cSl,Fn.c,h1,hf,hg,hft,hI,Fa.brk,hfull,KQ]
  try simp only[A2,A3]
  repeat' first|exact ck|with_reducible apply And.intro|intro _
  all_goals first|exact hl5|exact gp5|exact⟨gp5,hl5⟩|exact hi2.1|exact hi2.2|exact KZ|(refine A1 [] ?_;simp only[seval,go_sem,bne,Jk,E6,Dk,Dw,A5,↓A0,Ev.b,Ev.vl,evA,evW,va0,CV,Ds,Dt,DG,Cv,D4,DZ,Da,DA,D9,Cm,Cw,Dv,Ea,Eb,Dc,Du,Db,Dj,D5,CZ,CW,CI,BX,BS,AE,AF,Af,Ag,DW,DX,Et,Eu,DR,DS,DT,cSl,Fn.c,hI,Fa.brk])
 |true=>
 obtain⟨R,hR⟩:∃R,II (stF n) q.P ⟨gn,gps,gls,gb⟩ l q.m=R:=⟨_,rfl⟩
 have hI:GE (stF n) (.mk k0 x0 y0 e0 f0 cd0 ar0 th0 el0 no0) q=RF (.mk k0 x0 y0 e0 f0 cd0 ar0 th0 el0 no0) q R:=by rw[<- hR];exact qZ hA hf hgE hft
 have hk:=VV (M7 n) q ⟨gn,gps,gls,gb⟩ l hM.l (by have h7:=hM.u;omega)
 rw[hR]at hk
 obtain⟨rb,rv,rm⟩:=R
 have hm2:okMs N n { q with m:=rm }:=hM.kq hk (by have h7:rm.fuel<=q.m.fuel:=hk.u;have:=hM.u;show rm.fuel<_;omega)
 have hm3:okMs N n ⟨[],0,q.P,q.m,[]⟩:=⟨hM.p,hM.c,hM.a,hM.l,hM.u⟩
 have hmC:okC q.P rm:=hm2.c
 cases rb with
 |true=>
  have hI2:GE (stF n) (.mk k0 x0 y0 e0 f0 cd0 ar0 th0 el0 no0) q=⟨true,false,{ q with m:=rm }⟩:=hI
  simp only[seval,go_sem,↓A0,CB,CC,CE,CF,Va.c,isSome_some,isSome_none,Ev.b,Ev.vl,evA,evW,va0,CV,Ds,Dt,DG,Cv,D4,DZ,Da,DA,D9,Cm,Cw,Dv,Ea,Eb,Dc,Du,Db,Dj,D5,CZ,CW,CI,BX,BS,E6,Dk,Dw,AE,AF,Af,Ag,DW,DX,Et,Eu,DR,DS,DT,cSl,Fn.c,h1,hf,hg,hft,hI2,hfull,KQ,Yz,hR]
  try simp only[A2,A3]
  repeat' first|exact ck|with_reducible apply And.intro|intro _
  all_goals first|exact hl5|exact gp5|exact⟨gp5,hl5⟩|exact hi2.1|exact hi2.2|exact hm3|exact⟨gF,gB⟩|exact gF|exact gB|exact hft|exact KZ|(refine A1 [] ?_;simp only[seval,go_sem,bne,Jk,E6,Dk,Dw,A5,↓A0,Ev.b,Ev.vl,evA,evW,va0,CV,Ds,Dt,DG,Cv,D4,DZ,Da,DA,D9,Cm,Cw,Dv,Ea,Eb,Dc,Du,Db,Dj,D5,CZ,CW,CI,BX,BS,AE,AF,Af,Ag,DW,DX,Et,Eu,DR,DS,DT,cSl,Fn.c,hI2])
 |false=>
 cases hx0:(x0==[]) with
 |true=>
  have hI2:GE (stF n) (.mk k0 x0 y0 e0 f0 cd0 ar0 th0 el0 no0) q=Fa.go { q with m:=rm }:=by rw[hI];unfold RF;rw[if_neg (by simp),if_pos (show ((Sm.mk k0 x0 y0 e0 f0 cd0 ar0 th0 el0 no0).x==[])=true from hx0)]
  simp only[seval,go_sem,↓A0,CB,CC,CE,CF,Va.c,isSome_some,isSome_none,Ev.b,Ev.vl,evA,evW,va0,CV,Ds,Dt,DG,Cv,D4,DZ,Da,DA,D9,Cm,Cw,Dv,Ea,Eb,Dc,Du,Db,Dj,D5,CZ,CW,CI,BX,BS,E6,Dk,Dw,AE,AF,Af,Ag,DW,DX,Et,Eu,DR,DS,DT,cSl,Fn.c,h1,hf,hg,hft,hI2,hfull,KQ,Yz,hR,hx0,bne,Fa.go]
  try simp only[A2,A3]
  repeat' first|exact ck|with_reducible apply And.intro|intro _
  all_goals first|exact hl5|exact gp5|exact⟨gp5,hl5⟩|exact hi2.1|exact hi2.2|exact hm3|exact⟨gF,gB⟩|exact gF|exact gB|exact hft|exact KZ|(refine A1 [] ?_;simp only[seval,go_sem,bne,Jk,E6,Dk,Dw,A5,↓A0,Ev.b,Ev.vl,evA,evW,va0,CV,Ds,Dt,DG,Cv,D4,DZ,Da,DA,D9,Cm,Cw,Dv,Ea,Eb,Dc,Du,Db,Dj,D5,CZ,CW,CI,BX,BS,AE,AF,Af,Ag,DW,DX,Et,Eu,DR,DS,DT,cSl,Fn.c,hI2,Fa.go])
 |false=>
 obtain⟨A,hAs⟩:∃A,FW { q with m:=rm } (.mk k0 x0 y0 e0 f0 cd0 ar0 th0 el0 no0) rv=A:=⟨_,rfl⟩
 have hI2:GE (stF n) (.mk k0 x0 y0 e0 f0 cd0 ar0 th0 el0 no0) q=A:=by rw[hI,<- hAs];unfold RF;rw[if_neg (by simp),if_neg (by rw[show ((Sm.mk k0 x0 y0 e0 f0 cd0 ar0 th0 el0 no0).x==[])=false from hx0];decide)]
 have hat:A.t=false:=by rw[<- hAs];exact VW _ _ _
 obtain⟨ab,at1,aq⟩:=A
 cases ab with
 |true=>
  simp only[seval,go_sem,↓A0,CB,CC,CE,CF,Va.c,isSome_some,isSome_none,Ev.b,Ev.vl,evA,evW,va0,CV,Ds,Dt,DG,Cv,D4,DZ,Da,DA,D9,Cm,Cw,Dv,Ea,Eb,Dc,Du,Db,Dj,D5,CZ,CW,CI,BX,BS,E6,Dk,Dw,AE,AF,Af,Ag,DW,DX,Et,Eu,DR,DS,DT,cSl,Fn.c,h1,hf,hg,hft,hI2,hfull,KQ,Yz,hR,hx0,bne,hAs]
  try simp only[A2,A3]
  try exact yw
 |false=>
 simp only[seval,go_sem,↓A0,CB,CC,CE,CF,Va.c,isSome_some,isSome_none,Ev.b,Ev.vl,evA,evW,va0,CV,Ds,Dt,DG,Cv,D4,DZ,Da,DA,D9,Cm,Cw,Dv,Ea,Eb,Dc,Du,Db,Dj,D5,CZ,CW,CI,BX,BS,E6,Dk,Dw,AE,AF,Af,Ag,DW,DX,Et,Eu,DR,DS,DT,cSl,Fn.c,h1,hf,hg,hft,hI2,hfull,KQ,Yz,hR,hx0,bne,hAs]
 try simp only[A2,A3]
 try exact yw
end Go.Proofs.YtapedeoheilnnaaGreat
