/- Calls as statements, walked. No conditions but those in each statement. -/
import Derived.Test.YtapedeoheilnnaaGreatRmc
set_option linter.all false
open Option (isSome_some isSome_none)
open List (length_append)
namespace Go.Proofs.YtapedeoheilnnaaGreat
open Go Go.Sy Go.RowKit
theorem PP{P:Prop}(h:P:=by all_goals first|(refine A1 [] ?_;simp only[seval,go_sem,bne,Hy,Dt,Dg,Do,A3,↓A0,Ev.b,Ev.vl,evA,evW,va0,CN,Dk,Dl,D8,Cn,Cy,DP,DQ,D2,D1,Cg,Ct,Dn,EH,EJ,DZ,Dm,DY,Df,Cz,CW,CM,C4,BL,BG,A8,A9,Ad,Ae,DL,DM,Eh,Ei,DE,DF,DG,cSl,Fn.c,hI,Fa.brk])|exact KA):P:=h
theorem eC{P:Prop}(h:P:=by
 obtain⟨a,_,rfl⟩:=List.mem_map.1 hp
 rfl):P:=h
theorem oL{P:Prop}(h:P:=by all_goals first|(refine A1 [] ?_;simp only[seval,go_sem,bne,Hy,Dt,Dg,Do,A3,↓A0,Ev.b,Ev.vl,evA,evW,va0,CN,Dk,Dl,D8,Cn,Cy,DP,DQ,D2,D1,Cg,Ct,Dn,EH,EJ,DZ,Dm,DY,Df,Cz,CW,CM,C4,BL,BG,A8,A9,Ad,Ae,DL,DM,Eh,Ei,DE,DF,DG,cSl,Fn.c,hI2])|exact KA):P:=h
variable{l:List Va}{x:Ar}{st:Sm->Fa->Ro}{s:Sm}{q:Fa}{k:Nat}{i:Int}{P:Pg}{m:Ms}{vs:Vs}{r:List Ar}
theorem zN{l:List Ar}{i:Nat}(h:l[i]?=some x)(z:List D):(l.map Ar.r).getD i z=[.v (.bool x.p),.v (.string (bs x.s)),x.e.d]:=by simp[List.getD,h,Ar.r,dS]
theorem zO{l:List Fn}(h:0<=i/\i<(l.length:Int))(z:List D):(l.map Fn.r).getD i.toNat z=[.v (.string (bs (l.getD i.toNat ⟨[],[],[],[]⟩).name)),.sl zVr ((l.getD i.toNat ⟨[],[],[],[]⟩).ps.map Vr.r),.sl zVr ((l.getD i.toNat ⟨[],[],[],[]⟩).ls.map Vr.r),.sl zSm ((l.getD i.toNat ⟨[],[],[],[]⟩).body.map Sm.r)]:=by
 have h1:i.toNat<l.length:=by omega
 simp[List.getD,h1,Fn.r,dS]
theorem ZH(k:Nat)(z:List D)(es:List (List D))(vs:Vs):(vsC vs).map (λp=>(p.1,p.2.map (fzC k z es)))=vsC vs:=DR λp hp=>by
 exact eC
theorem ZI:List.drop 1 zFn=[.v (.slice none 0 0),.v (.slice none 0 0),.v (.slice none 0 0)]:=rfl
theorem ZJ:cVq.d (.one (.v (.slice none 0 0)))=some []:=E4 (e:=λl:List Vr=>.one (.d (.sl zVr (l.map Vr.r)))) (a:=[]) (Or.inr ⟨rfl,rfl⟩)
theorem zP(l:List Fn):(∀z,(l.map Fn.r).getD 0 z=z)∨∃(n:List UInt8) (ps ls:List Vr) (bd:List Sm),∀z,(l.map Fn.r).getD 0 z=[.v (.string (bs n)),.sl zVr (ps.map Vr.r),.sl zVr (ls.map Vr.r),.sl zSm (bd.map Sm.r)]:=by
 cases l with
 |nil=>exact .inl λz=>rfl
 |cons f r=>exact .inr ⟨f.name,f.ps,f.ls,f.body,λz=>rfl⟩
def apE(l:List Va):Ev (List Va)->Ev (List Va)
 | .ok r=>.ok (l++r)
 | .no k=>.no k
theorem uP(e:Ev (List Va)):apE [] e=e:=by cases e<;>rfl
theorem A7h(h:x.p=true):apE l (Fj P m vs (x::r))=apE (l++[⟨true,0,(GB vs x.s).s⟩]) (Fj P m vs r):=by
 simp only[Fj]
 rw[if_pos h]
 cases Fj P m vs r with
 |ok t=>simp[apE]
 |no k=>rfl
theorem A4D{j:Int}(h:x.p=false)(he:evF P m vs x.e= .no j):apE l (Fj P m vs (x::r))= .no j:=by
 simp only[Fj]
 rw[if_neg (by rw[h];decide),he];rfl
theorem A4E{v:Int}(h:x.p=false)(he:evF P m vs x.e= .ok v):apE l (Fj P m vs (x::r))=apE (l++[⟨false,v,[]⟩]) (Fj P m vs r):=by
 simp only[Fj]
 rw[if_neg (by rw[h];decide),he]
 dsimp only
 cases Fj P m vs r with
 |ok t=>simp[apE]
 |no k=>rfl
theorem jg{j:Int}(h:Fj q.P q.m q.vs s.ar= .no j):GQ st s q=q.brk s j:=by unfold GQ;rw[h]
theorem qz(h:Fj q.P q.m q.vs s.ar= .ok l)(hf:q.P.fi s.y=none):GQ st s q=q.brk s 4:=by unfold GQ;rw[h];dsimp only;rw[hf]
theorem rC{g:Fn}(h:Fj q.P q.m q.vs s.ar= .ok l)(hf:q.P.fi s.y=some i)(hg:q.P.fs.getD i.toNat ⟨[],[],[],[]⟩=g)(hft:Dw g.ps l=false):GQ st s q=q.brk s 4:=by
 unfold GQ;rw[h];dsimp only;rw[hf];dsimp only;rw[hg,if_pos hft]
theorem rD{g:Fn}(h:Fj q.P q.m q.vs s.ar= .ok l)(hf:q.P.fi s.y=some i)(hg:q.P.fs.getD i.toNat ⟨[],[],[],[]⟩=g)(hft:Dw g.ps l=true):GQ st s q=RO s q (IX st q.P g l q.m):=by
 unfold GQ;rw[h];dsimp only;rw[hf];dsimp only;rw[hg,if_neg (by rw[hft];decide)]
theorem Vo(q:Fa)(s:Sm)(v:Int):(Fk q s v).t=false:=by
 unfold Fk
 split
 .rfl
 split<;>rfl
def JT(l:List Va)(k:Nat):List Va:=l++List.replicate (k-l.length) va0
theorem uQ(k:Nat):(JT [] k).map Va.c=List.replicate k [.v (.bool false),.v (.int .i64 0),.v (.string (bs []))]:=by
 show (([]:List Va)++List.replicate (k-0) va0).map Va.c=_
 rw[List.nil_append,Nat.sub_zero,List.map_replicate];rfl
theorem uR(h:l.length<=k):(JT l k).length=k:=by
 unfold JT;rw[length_append,List.length_replicate];omega
theorem uS(h:l.length=k):JT l k=l:=by
 unfold JT;rw[h,Nat.sub_self];simp
theorem uT(h:l.length<k)(p:Bool)(n:Int)(s:List UInt8):((JT l k).map Va.c).set l.length [.v (.bool p),.v (.int .i64 n),.v (.string (bs s))]=(JT (l++[⟨p,n,s⟩]) k).map Va.c:=by
 have e:((JT l k).map Va.c).set l.length (Va.c ⟨p,n,s⟩)=((JT l k).set l.length ⟨p,n,s⟩).map Va.c:=(List.map_set (f:=Va.c) (a:=(⟨p,n,s⟩:Va))).symm
 have e2:(JT l k).set l.length ⟨p,n,s⟩=JT (l++[⟨p,n,s⟩]) k:=by
  unfold JT
  rw[List.set_append_right _ _ (Nat.le_refl _),Nat.sub_self]
  obtain⟨j,hj⟩:∃j,k-l.length=j+1:=⟨k-l.length-1,by omega⟩
  rw[hj,List.replicate_succ,List.set_cons_zero,length_append,show k-(l.length+[(⟨p,n,s⟩:Va)].length)=j by simp only[List.length_cons,List.length_nil];omega]
  simp
 rw[<- e2];exact e
theorem uU(h:l.length<k)(z:List C):((JT l k).map Va.c).getD l.length z=[.v (.bool false),.v (.int .i64 0),.v (.string (bs []))]:=by
 have h1:(JT l k)[l.length]?=some va0:=by
  unfold JT
  rw[List.getElem?_append_right (Nat.le_refl _),Nat.sub_self,List.getElem?_replicate,if_pos (by omega)]
 rw[List.getD,List.getElem?_map,h1];rfl
theorem zQ(n:Nat)(a b c:Value):List.flatMap (λl=>List.flatMap C.names l) (List.replicate n [C.v a,C.v b,C.v c])=[]:=List.flatMap_eq_nil_iff.2 λr hr=>by
 rw[List.eq_of_mem_replicate hr];rfl
theorem A4F(a:Va):∀c∈a.c,c.names=[]:=by
 intro c hc
 simp only[Va.c,List.mem_cons,List.not_mem_nil,or_false]at hc
 exact AAt
theorem aC(l:List Va):List.flatMap (λr=>List.flatMap C.names r) (l.map Va.c)=[]:=List.flatMap_eq_nil_iff.2 λr hr=>by
 obtain⟨a,_,rfl⟩:=List.mem_map.1 hr
 exact List.flatMap_eq_nil_iff.2 (A4F a)
theorem KY(l:List Va):EZ (l.map Va.c)=some (l.map Va.r):=Hi Va.c (λ_=>rfl) l
abbrev uV(N:Nat)(n:Nat)(q:Fa)(s:Sm):Prop:=okT N s/\okMs N n q/\n<=1000000000
abbrev Dt(N:Nat)(n:Nat)(q:Fa)(s:Sm):Bool:=(GQ (stF n) s q).b
abbrev Dg(N:Nat)(n:Nat)(q:Fa)(s:Sm):Fa:=(GQ (stF n) s q).q
abbrev Do(N:Nat)(n:Nat)(q:Fa)(s:Sm):Fa:=(GQ (stF n) s q).q
abbrev Hy(N:Nat)(n:Nat)(q:Fa)(s:Sm):SV:=.tup []
theorem uW:∀b,∀v∈ArgC.e (acS (cSp) ac0) b,v.tupB=false:=by rintro ⟨x0,_⟩ v hv;simp only[FV,FU,List.mem_cons,List.not_mem_nil,or_false]at hv;subst hv<;>first|rfl|exact FN _|exact FO _
noncomputable abbrev Tg:ArgL (Fa×(Sm)×Unit):=amFr (acS (cSp) ac0) uW
abbrev QL(N:Nat)(n:Nat):Prop:=Dj Tryz.prog 112 (Tg).args (Tg).mem (λp:(Fa×(Sm)×Unit)=>uV N n p.1 p.2.1) (λp:(Fa×(Sm)×Unit)=>Dt N n p.1 p.2.1) (λp:(Fa×(Sm)×Unit)=>Hy N n p.1 p.2.1) (λp:(Fa×(Sm)×Unit)=>Fa.memO (Dg N n p.1 p.2.1)) (λp:(Fa×(Sm)×Unit)=>mlO (Fa.pan (Do N n p.1 p.2.1)))
noncomputable def XM{X:Ctx}{w0:World}(N:Nat)(n:Nat)(h:QL N n):Sy.Spec Tryz.prog X w0:=Dc 112 Tryz.call112 (Tg) _ _ _ _ _ (id (by exact λp _ _=>have h:=Ek p.1 (Dg N n p.1 p.2.1);⟨h.1,h.2.1,rfl,h.2.2⟩)) (id (by exact λp _ _=>JM p.1 (Do N n p.1 p.2.1))) (id (by exact λp _ _=>⟨(Ek p.1 (Dg N n p.1 p.2.1)).1,rfl⟩)) KF5 h
theorem uX{X:Ctx}{w0:World}(N:Nat)(n:Nat)(h:QL N n):(XM (X:=X) (w0:=w0) N n h).f=112:=rfl
def uY{X:Ctx}{w0:World}(N:Nat)(n:Nat)(h:QL N n)(t:Nat)(args:List SV)(H:Hp):=@id ((XM (X:=X) (w0:=w0) N n h).fn t args H=spL X _ t H _ _ _ _ _) rfl
attribute [local go_sem] Fa.mem Fa.memO Fa.pan ML.ch ML.ren Sm.ar Sm.cd Sm.e Sm.el Sm.f Sm.k Sm.no Sm.th Sm.x Sm.y H4 Gz H5 Di Bl Bk Be Bi Bj LJ LI DJ DI chL IJ F6 F5 Gv fcN JI frC IK Gx lmH lmO Gw IH II mcC IL Hm mcW DH Cj Ck EQ nmX A5 A4 Dz Dh D3 D4 ED E9 GW GV E5 EE rnC Fx AF Ci DS Cu CU E8 vrQ IM JJ
set_option maxRecDepth 20000 in set_option maxHeartbeats 64000000 in
attribute[local go_sem] xt in
theorem zR(N:Nat)(n:Nat)(hu:Ui N n):QL N n:=by
 rintro ⟨q,s,_u⟩ w M I lab fz xs hc hA hl hx
 refine Bz Tryz.func112 rfl (Fa.mem q) w M I lab fz (Dt N n q s) (Fa.pan (Do N n q s)) (Fa.memO (Dg N n q s)) [CN,(KX N (QI N)),Dn,Cz,(CM N n hu)] [(11,[.fz 15])] ((Tg).args ⟨q,s,_u⟩) (Hy N n q s) xs hA hl hx (Hx _ _ _ _) (jN rfl) (Nat.le_refl _) rfl (JN _) ?_
 clear hx hl hA xs
 simp only[Tryz.f112]
 obtain⟨hT,hM,hn⟩:=hc
 dsimp only at hT hM hn
 have hal:s.ar.length<=5000:=hT.k.l
 have had:∀a∈s.ar,a.e.dp<N:=hT.k.a
 obtain⟨k0,x0,y0,e0,f0,cd0,ar0,th0,el0,no0⟩:=s
 dsimp only[Sm.ar]at hal had
 simp only[seval,go_sem,↓A0,CP,CQ,CR,CS,Va.c,isSome_some,isSome_none,Ev.b,Ev.vl,evA,evW,va0,CN,Dk,Dl,D8,Cn,Cy,DP,DQ,D2,D1,Cg,Ct,Dn,EH,EJ,DZ,Dm,DY,Df,Cz,CW,CM,C4,BL,BG,Dt,Dg,Do,A8,A9,Ad,Ae,DL,DM,Eh,Ei,DE,DF,DG,cSl,Fn.c]
 try simp only[AD,AE]
 repeat' (first|exact ck|with_reducible apply And.intro)
 all_goals try first|exact hal|decide|omega
 refine AC (Y:=List Va) (λl=>l.length<=ar0.length/\Fj q.P q.m q.vs ar0=apE l (Fj q.P q.m q.vs (ar0.drop l.length)))
  (λl=>⟨[(0,true,.one (.p 0 0 0)),(1,true,.one (.dp [.v (.int .i64 k0),.v (.string (bs x0)),.v (.string (bs y0)),e0.d,f0.d,cd0.d,.sl zAr (ar0.map Ar.r),.sl zSm (th0.map Sm.r),.sl zSm (el0.map Sm.r),.v (.int .i64 no0)])),(4,true,.one (.s 15)),(19,true,.one (.d (.sl zAr (ar0.map Ar.r)))),(20,true,.one (.v (.int .i64 (ar0.length:Int)))),(21,true,.one (.v (.int .i64 (l.length:Int))))],[(0,.vec 0 zFr [frC q]),(1,.vec 0 zMc [mcC q.P q.m]),(2,.mp true (vsC q.vs)),(15,.vec 0 [.v (.bool false),.v (.int .i64 0),.v (.string (bs []))] ((JT l ar0.length).map Va.c))]⟩)
  (λl=>ar0.length-l.length) [] ⟨Nat.zero_le _,(uP _).symm⟩ ?_ ?_
 .refine A2 [] ?_;simp only[seval,go_sem,↓A0,uQ,zQ]
 rintro l ⟨hi,hJ⟩
 refine AP [CN,KX N (QI N),Dn,Cz,CM N n hu] [(11,[.fz 15])] _ _ _ ?_
 have w1:IntKind.i64.wrap ((l.length:Int)+1)=((l.length+1:Nat):Int):=by rw[wrap_i64 (by omega) (by omega)];rfl
 have fl1:=uR hi
 cases hx:ar0[l.length]? with
 |some x=>
  have hlt:=(List.getElem?_eq_some_iff.1 hx).1
  have h1:=Ah hlt
  have h2:=zN hx
  have hfs:=uT hlt
  have hgt:=uU hlt
  have hxd:x.e.dp<N:=had x (List.mem_of_getElem? hx)
  rw[BF hx]at hJ
  cases hp:x.p with
  |true=>
   have hJ2:∀v,(GB q.vs x.s).s=v->Fj q.P q.m q.vs ar0=apE (l++[⟨true,0,v⟩]) (Fj q.P q.m q.vs (ar0.drop (l.length+1))):=λv hv=>by rw[hJ,A7h hp,hv]
   cases hv:AH q.vs x.s with
   |none=>
    have hv2:(GB q.vs x.s).s=[]:=by unfold GB;rw[hv];rfl
    simp only[seval,go_sem,↓A0,CP,CQ,CR,CS,Va.c,isSome_some,isSome_none,Ev.b,Ev.vl,evA,evW,va0,CN,Dk,Dl,D8,Cn,Cy,DP,DQ,D2,D1,Cg,Ct,Dn,EH,EJ,DZ,Dm,DY,Df,Cz,CW,CM,C4,BL,BG,Dt,Dg,Do,A8,A9,Ad,Ae,DL,DM,Eh,Ei,DE,DF,DG,cSl,Fn.c,h1,h2,hp,hv,w1,hfs,hgt,fl1]
    repeat refine AX ?_
    refine⟨l++[⟨true,0,[]⟩],⟨by rw[length_append];exact hlt,by rw[length_append];exact hJ2 _ hv2⟩,by rw[length_append];show ar0.length-(l.length+1)<_;omega,A2 [] ?_⟩
    simp only[seval,go_sem,↓A0,length_append,aC]
   |some u=>
   have hv2:(GB q.vs x.s).s=u.s:=by unfold GB;rw[hv];rfl
   simp only[seval,go_sem,↓A0,CP,CQ,CR,CS,Va.c,isSome_some,isSome_none,Ev.b,Ev.vl,evA,evW,va0,CN,Dk,Dl,D8,Cn,Cy,DP,DQ,D2,D1,Cg,Ct,Dn,EH,EJ,DZ,Dm,DY,Df,Cz,CW,CM,C4,BL,BG,Dt,Dg,Do,A8,A9,Ad,Ae,DL,DM,Eh,Ei,DE,DF,DG,cSl,Fn.c,h1,h2,hp,hv,w1,hfs,hgt,fl1]
   repeat refine AX ?_
   refine⟨l++[⟨true,0,u.s⟩],⟨by rw[length_append];exact hlt,by rw[length_append];exact hJ2 _ hv2⟩,by rw[length_append];show ar0.length-(l.length+1)<_;omega,A2 [] ?_⟩
   simp only[seval,go_sem,↓A0,length_append,aC]
  |false=>
  cases he:evF q.P q.m q.vs x.e with
  |no j=>
   have hA:Fj q.P q.m q.vs ar0= .no j:=by rw[hJ,A4D hp he]
   have hI:GQ (stF n) (.mk k0 x0 y0 e0 f0 cd0 ar0 th0 el0 no0) q=q.brk (.mk k0 x0 y0 e0 f0 cd0 ar0 th0 el0 no0) j:=jg hA
   simp only[seval,go_sem,↓A0,CP,CQ,CR,CS,Va.c,isSome_some,isSome_none,Ev.b,Ev.vl,evA,evW,va0,CN,Dk,Dl,D8,Cn,Cy,DP,DQ,D2,D1,Cg,Ct,Dn,EH,EJ,DZ,Dm,DY,Df,Cz,CW,CM,C4,BL,BG,Dt,Dg,Do,A8,A9,Ad,Ae,DL,DM,Eh,Ei,DE,DF,DG,cSl,Fn.c,h1,h2,hp,he,w1,hfs,hgt,fl1,hI,Fa.brk]
   have:=hM.c;repeat first|refine AX ?_|refine⟨⟨hM.c,hxd⟩,?_⟩
   exact PP
  |ok v=>
  have hJ2:Fj q.P q.m q.vs ar0=apE (l++[⟨false,v,[]⟩]) (Fj q.P q.m q.vs (ar0.drop (l.length+1))):=by rw[hJ,A4E hp he]
  simp only[seval,go_sem,↓A0,CP,CQ,CR,CS,Va.c,isSome_some,isSome_none,Ev.b,Ev.vl,evA,evW,va0,CN,Dk,Dl,D8,Cn,Cy,DP,DQ,D2,D1,Cg,Ct,Dn,EH,EJ,DZ,Dm,DY,Df,Cz,CW,CM,C4,BL,BG,Dt,Dg,Do,A8,A9,Ad,Ae,DL,DM,Eh,Ei,DE,DF,DG,cSl,Fn.c,h1,h2,hp,he,w1,hfs,hgt,fl1]
  have:=hM.c;repeat first|refine AX ?_|refine⟨⟨hM.c,hxd⟩,?_⟩
  refine⟨l++[⟨false,v,[]⟩],⟨by rw[length_append];exact hlt,by rw[length_append];exact hJ2⟩,by rw[length_append];show ar0.length-(l.length+1)<_;omega,A2 [] ?_⟩
  simp only[seval,go_sem,↓A0,length_append,aC]
 |none=>
 have h2:=List.getElem?_eq_none_iff.1 hx
 have h1:=Ai h2
 have hll:l.length=ar0.length:=by omega
 rw[List.drop_eq_nil_of_le h2]at hJ
 have hA:Fj q.P q.m q.vs ar0= .ok l:=by rw[hJ];show Ev.ok (l++[])=_;rw[List.append_nil]
 have hfull:JT l ar0.length=l:=uS hll
 have hl5:l.length<=5000:=by omega
 cases hf:q.P.fi y0 with
 |none=>
  have hI:GQ (stF n) (.mk k0 x0 y0 e0 f0 cd0 ar0 th0 el0 no0) q=q.brk (.mk k0 x0 y0 e0 f0 cd0 ar0 th0 el0 no0) 4:=qz hA hf
  rcases zP q.P.fs with h0|⟨n0,p0,l0,b0,h0⟩
  .simp only[seval,go_sem,↓A0,CP,CQ,CR,CS,Va.c,isSome_some,isSome_none,Ev.b,Ev.vl,evA,evW,va0,CN,Dk,Dl,D8,Cn,Cy,DP,DQ,D2,D1,Cg,Ct,Dn,EH,EJ,DZ,Dm,DY,Df,Cz,CW,CM,C4,BL,BG,Dt,Dg,Do,A8,A9,Ad,Ae,DL,DM,Eh,Ei,DE,DF,DG,cSl,Fn.c,h1,hf,hI,Fa.brk,hfull,h0,KY,ZJ,ZI]
   repeat refine AX ?_
   exact PP
  simp only[seval,go_sem,↓A0,CP,CQ,CR,CS,Va.c,isSome_some,isSome_none,Ev.b,Ev.vl,evA,evW,va0,CN,Dk,Dl,D8,Cn,Cy,DP,DQ,D2,D1,Cg,Ct,Dn,EH,EJ,DZ,Dm,DY,Df,Cz,CW,CM,C4,BL,BG,Dt,Dg,Do,A8,A9,Ad,Ae,DL,DM,Eh,Ei,DE,DF,DG,cSl,Fn.c,h1,hf,hI,Fa.brk,hfull,h0,KY,ZJ,ZI]
  repeat refine AX ?_
  exact PP
 |some i=>
 have hi2:=Pg.fi_lt hf
 have hg:=zO hi2
 have hgm:q.P.fs.getD i.toNat ⟨[],[],[],[]⟩∈q.P.fs:=by
  have:i.toNat<q.P.fs.length:=by omega
  rw[List.getD,List.getElem?_eq_getElem this];exact List.getElem_mem this
 obtain⟨gF,gB⟩:=hM.p.f _ hgm
 obtain⟨g,hgE⟩:∃g,q.P.fs.getD i.toNat ⟨[],[],[],[]⟩=g:=⟨_,rfl⟩
 rw[hgE]at hg gF gB
 obtain⟨gn,gps,gls,gb⟩:=g
 have gp5:gps.length<=5000:=gF.1
 cases hft:Dw gps l with
 |false=>
  have hI:GQ (stF n) (.mk k0 x0 y0 e0 f0 cd0 ar0 th0 el0 no0) q=q.brk (.mk k0 x0 y0 e0 f0 cd0 ar0 th0 el0 no0) 4:=rC hA hf hgE hft
  simp only[seval,go_sem,↓A0,CP,CQ,CR,CS,Va.c,isSome_some,isSome_none,Ev.b,Ev.vl,evA,evW,va0,CN,Dk,Dl,D8,Cn,Cy,DP,DQ,D2,D1,Cg,Ct,Dn,EH,EJ,DZ,Dm,DY,Df,Cz,CW,CM,C4,BL,BG,Dt,Dg,Do,A8,A9,Ad,Ae,DL,DM,Eh,Ei,DE,DF,DG,cSl,Fn.c,h1,hf,hg,hft,hI,Fa.brk,hfull,KY]
  have:=hi2.1;have:=hi2.2;repeat refine AX ?_
  exact PP
 |true=>
 obtain⟨R,hR⟩:∃R,IX (stF n) q.P ⟨gn,gps,gls,gb⟩ l q.m=R:=⟨_,rfl⟩
 have hI:GQ (stF n) (.mk k0 x0 y0 e0 f0 cd0 ar0 th0 el0 no0) q=RO (.mk k0 x0 y0 e0 f0 cd0 ar0 th0 el0 no0) q R:=by rw[<- hR];exact rD hA hf hgE hft
 have hk:=Vn (ME n) q ⟨gn,gps,gls,gb⟩ l hM.l (by have h7:=hM.u;omega)
 rw[hR]at hk
 obtain⟨rb,rv,rm⟩:=R
 have hm2:okMs N n { q with m:=rm }:=hM.kq hk (by have h7:rm.fuel<=q.m.fuel:=hk.u;have:=hM.u;show rm.fuel<_;omega)
 have hm3:okMs N n ⟨[],0,q.P,q.m,[]⟩:=⟨hM.p,hM.c,hM.a,hM.l,hM.u⟩
 have hmC:okC q.P rm:=hm2.c
 cases rb with
 |true=>
  have hI2:GQ (stF n) (.mk k0 x0 y0 e0 f0 cd0 ar0 th0 el0 no0) q=⟨true,false,{ q with m:=rm }⟩:=hI
  simp only[seval,go_sem,↓A0,CP,CQ,CR,CS,Va.c,isSome_some,isSome_none,Ev.b,Ev.vl,evA,evW,va0,CN,Dk,Dl,D8,Cn,Cy,DP,DQ,D2,D1,Cg,Ct,Dn,EH,EJ,DZ,Dm,DY,Df,Cz,CW,CM,C4,BL,BG,Dt,Dg,Do,A8,A9,Ad,Ae,DL,DM,Eh,Ei,DE,DF,DG,cSl,Fn.c,h1,hf,hg,hft,hI2,hfull,KY,ZH,hR]
  have:=hi2.1;have:=hi2.2;repeat refine AX ?_
  exact oL
 |false=>
 cases hx0:(x0==[]) with
 |true=>
  have hI2:GQ (stF n) (.mk k0 x0 y0 e0 f0 cd0 ar0 th0 el0 no0) q=Fa.go { q with m:=rm }:=by rw[hI];unfold RO;rw[if_neg (by simp),if_pos (show ((Sm.mk k0 x0 y0 e0 f0 cd0 ar0 th0 el0 no0).x==[])=true from hx0)]
  simp only[seval,go_sem,↓A0,CP,CQ,CR,CS,Va.c,isSome_some,isSome_none,Ev.b,Ev.vl,evA,evW,va0,CN,Dk,Dl,D8,Cn,Cy,DP,DQ,D2,D1,Cg,Ct,Dn,EH,EJ,DZ,Dm,DY,Df,Cz,CW,CM,C4,BL,BG,Dt,Dg,Do,A8,A9,Ad,Ae,DL,DM,Eh,Ei,DE,DF,DG,cSl,Fn.c,h1,hf,hg,hft,hI2,hfull,KY,ZH,hR,hx0,bne,Fa.go]
  have:=hi2.1;have:=hi2.2;repeat refine AX ?_
  refine A1 [] ?_;simp only[seval,go_sem,bne,Hy,Dt,Dg,Do,A3,↓A0,Ev.b,Ev.vl,evA,evW,va0,CN,Dk,Dl,D8,Cn,Cy,DP,DQ,D2,D1,Cg,Ct,Dn,EH,EJ,DZ,Dm,DY,Df,Cz,CW,CM,C4,BL,BG,A8,A9,Ad,Ae,DL,DM,Eh,Ei,DE,DF,DG,cSl,Fn.c,hI2,Fa.go]
 |false=>
 obtain⟨A,hAs⟩:∃A,Fk { q with m:=rm } (.mk k0 x0 y0 e0 f0 cd0 ar0 th0 el0 no0) rv=A:=⟨_,rfl⟩
 have hI2:GQ (stF n) (.mk k0 x0 y0 e0 f0 cd0 ar0 th0 el0 no0) q=A:=by rw[hI,<- hAs];unfold RO;rw[if_neg (by simp),if_neg (by rw[show ((Sm.mk k0 x0 y0 e0 f0 cd0 ar0 th0 el0 no0).x==[])=false from hx0];decide)]
 have hat:A.t=false:=by rw[<- hAs];exact Vo _ _ _
 obtain⟨ab,at1,aq⟩:=A
 cases ab with
 |true=>
  simp only[seval,go_sem,↓A0,CP,CQ,CR,CS,Va.c,isSome_some,isSome_none,Ev.b,Ev.vl,evA,evW,va0,CN,Dk,Dl,D8,Cn,Cy,DP,DQ,D2,D1,Cg,Ct,Dn,EH,EJ,DZ,Dm,DY,Df,Cz,CW,CM,C4,BL,BG,Dt,Dg,Do,A8,A9,Ad,Ae,DL,DM,Eh,Ei,DE,DF,DG,cSl,Fn.c,h1,hf,hg,hft,hI2,hfull,KY,ZH,hR,hx0,bne,hAs]
  have:=hi2.1;have:=hi2.2;repeat first|refine AX ?_|refine⟨λ_=>hmC,?_⟩
  exact oL
 |false=>
 simp only[seval,go_sem,↓A0,CP,CQ,CR,CS,Va.c,isSome_some,isSome_none,Ev.b,Ev.vl,evA,evW,va0,CN,Dk,Dl,D8,Cn,Cy,DP,DQ,D2,D1,Cg,Ct,Dn,EH,EJ,DZ,Dm,DY,Df,Cz,CW,CM,C4,BL,BG,Dt,Dg,Do,A8,A9,Ad,Ae,DL,DM,Eh,Ei,DE,DF,DG,cSl,Fn.c,h1,hf,hg,hft,hI2,hfull,KY,ZH,hR,hx0,bne,hAs]
 have:=hi2.1;have:=hi2.2;repeat first|refine AX ?_|refine⟨λ_=>hmC,?_⟩
 refine A1 [] ?_;simp only[seval,go_sem,bne,Hy,Dt,Dg,Do,A3,↓A0,Ev.b,Ev.vl,evA,evW,va0,CN,Dk,Dl,D8,Cn,Cy,DP,DQ,D2,D1,Cg,Ct,Dn,EH,EJ,DZ,Dm,DY,Df,Cz,CW,CM,C4,BL,BG,A8,A9,Ad,Ae,DL,DM,Eh,Ei,DE,DF,DG,cSl,Fn.c,hI2]
end Go.Proofs.YtapedeoheilnnaaGreat
