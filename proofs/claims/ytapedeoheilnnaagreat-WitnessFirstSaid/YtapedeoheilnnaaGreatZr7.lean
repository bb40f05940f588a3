/- The document's machine: statements in order, calls, walked. Conditions: the programs are regular. -/
import Derived.Test.YtapedeoheilnnaaGreatZr5
import Derived.Test.YtapedeoheilnnaaGreatZr6
import Derived.Test.YtapedeoheilnnaaGreatWi
import Derived.Test.YtapedeoheilnnaaGreatRm9
set_option linter.all false
set_option maxRecDepth 20000
set_option maxHeartbeats 32000000
open Option (isSome_some isSome_none)
namespace Go.Proofs.YtapedeoheilnnaaGreat
open Go Go.Sy Go.RowKit
theorem sZ{P:Prop}(h:P:=by simp only[seval,go_sem,↓A0,BV,BW,BX,BZ,isSome_some,isSome_none,fl4,fl6]):P:=h
theorem AAQ{P:Prop}(h:P:=by
 simp only[seval,go_sem,↓A0,BV,BW,BX,BZ,isSome_some,isSome_none,Am,An,Ab,Aa,AW,AZ,Ad,Ae,h1,hT,hP,he,h,fl4,fl6]
 try simp only[AD,AE]
 try exact fM):P:=h
variable{st:Sm->Rz->Rz}{P:Pg}{g:Fn}{a:List Va}{m:Ms}
theorem fM{P:Prop}(h:P:=by (repeat' first|exact ck|with_reducible apply And.intro|intro _);all_goals first|exact hc1|exact⟨mb,hB⟩|exact⟨kb,hR⟩|exact hM1|exact KZ|(refine A1 [] ?_;simp only[seval,go_sem,bne,Eu,Ew,↓A0,h,hP])):P:=h
def fl6:List C:=[.v (.bool false),.v (.bool false),.v (.bool false),.v (.bool false),.v (.bool false),.v (.bool false)]
theorem xg:isC []=[]:=rfl
theorem xh:psC' []=[]:=rfl
theorem Zb(k:Nat)(z:List D)(es:List (List D))(vs:Zi):(isC vs).map (λp=>(p.1,p.2.map (fzC k z es)))=isC vs:=DR λp hp=>by
 exact eC
theorem Zc(k:Nat)(z:List D)(es:List (List D))(vs:Zp):(psC' vs).map (λp=>(p.1,p.2.map (fzC k z es)))=psC' vs:=DR λp hp=>by
 exact eC
theorem iM(k t:Nat)(vs:Zi):(isC vs).map (λp=>(p.1,p.2.map (mvC k t)))=isC vs:=DR λp hp=>by
 exact eC
theorem iN(k t:Nat)(vs:Zp):(psC' vs).map (λp=>(p.1,p.2.map (mvC k t)))=psC' vs:=DR λp hp=>by
 exact eC
abbrev cG(N:Nat)(n:Nat)(q:Rz)(s:Sm):Prop:=(okT N s/\smR s/\(∃k,bkR k s.th)/\∃k,bkR k s.el)/\okZ N n q.P q.m/\q.m.on=true/\n<=1000000000
abbrev DA(N:Nat)(n:Nat)(q:Rz)(s:Sm):Bool:=false
abbrev Cv(N:Nat)(n:Nat)(q:Rz)(s:Sm):Rz:=stZ n s q
abbrev D5(N:Nat)(n:Nat)(q:Rz)(s:Sm):Rz:=stZ n s q
abbrev DB(N:Nat)(n:Nat)(q:Rz)(s:Sm):SV:=.tup []
theorem qI:∀b,∀v∈ArgC.e (acS (cSm) ac0) b,v.tupB=false:=by rintro ⟨x0,_⟩ v hv;simp only[FV,FU,List.mem_cons,List.not_mem_nil,or_false]at hv;subst hv<;>first|rfl|exact FN _|exact FO _
noncomputable abbrev Ry:ArgL (Rz×(Sm)×Unit):=amRz (acS (cSm) ac0) qI
abbrev M8(N:Nat)(n:Nat):Prop:=Dj Tryz.prog 74 (Ry).args (Ry).mem (λp:(Rz×(Sm)×Unit)=>cG N n p.1 p.2.1) (λp:(Rz×(Sm)×Unit)=>DA N n p.1 p.2.1) (λp:(Rz×(Sm)×Unit)=>DB N n p.1 p.2.1) (λp:(Rz×(Sm)×Unit)=>Rz.memO (Cv N n p.1 p.2.1)) (λp:(Rz×(Sm)×Unit)=>mlO (Rz.pan (D5 N n p.1 p.2.1)))
noncomputable def S0{X:Ctx}{w0:World}(N:Nat)(n:Nat)(h:M8 N n):Sy.Spec Tryz.prog X w0:=Dc 74 Tryz.call74 (Ry) _ _ _ _ _ (id (by exact λp _ _=>have h:=GZ p.1 (Cv N n p.1 p.2.1);⟨h.1,h.2.1,rfl,h.2.2⟩)) (id (by exact λp _ _=>Mi p.1 (D5 N n p.1 p.2.1))) (id (by exact λp _ _=>⟨(GZ p.1 (Cv N n p.1 p.2.1)).1,rfl⟩)) KF5 h
theorem S1{X:Ctx}{w0:World}(N:Nat)(n:Nat)(h:M8 N n):(S0 (X:=X) (w0:=w0) N n h).f=74:=rfl
def S2{X:Ctx}{w0:World}(N:Nat)(n:Nat)(h:M8 N n)(t:Nat)(args:List SV)(H:Hp):=@id ((S0 (X:=X) (w0:=w0) N n h).fn t args H=spL X _ t H _ _ _ _ _) rfl
abbrev Ml(N:Nat)(n:Nat)(q:Rz)(l:List Sm):Prop:=((∃m,okB N m l)/\∃k,bkR k l)/\okZ N n q.P q.m/\n<=1000000000
abbrev Aa(N:Nat)(n:Nat)(q:Rz)(l:List Sm):Bool:=false
abbrev AW(N:Nat)(n:Nat)(q:Rz)(l:List Sm):Rz:=blZ (stZ n) l q
abbrev AZ(N:Nat)(n:Nat)(q:Rz)(l:List Sm):Rz:=blZ (stZ n) l q
abbrev Ab(N:Nat)(n:Nat)(q:Rz)(l:List Sm):SV:=.tup []
theorem m6:∀b,∀v∈ArgC.e (acS (cSs) ac0) b,v.tupB=false:=by rintro ⟨x0,_⟩ v hv;simp only[FV,FU,List.mem_cons,List.not_mem_nil,or_false]at hv;subst hv<;>first|rfl|exact FN _|exact FO _
noncomputable abbrev PM:ArgL (Rz×(List Sm)×Unit):=amRz (acS (cSs) ac0) m6
abbrev L7(N:Nat)(n:Nat):Prop:=Dj Tryz.prog 53 (PM).args (PM).mem (λp:(Rz×(List Sm)×Unit)=>Ml N n p.1 p.2.1) (λp:(Rz×(List Sm)×Unit)=>Aa N n p.1 p.2.1) (λp:(Rz×(List Sm)×Unit)=>Ab N n p.1 p.2.1) (λp:(Rz×(List Sm)×Unit)=>Rz.memO (AW N n p.1 p.2.1)) (λp:(Rz×(List Sm)×Unit)=>mlO (Rz.pan (AZ N n p.1 p.2.1)))
noncomputable def Jm{X:Ctx}{w0:World}(N:Nat)(n:Nat)(h:L7 N n):Sy.Spec Tryz.prog X w0:=Dc 53 Tryz.call53 (PM) _ _ _ _ _ (id (by exact λp _ _=>have h:=GZ p.1 (AW N n p.1 p.2.1);⟨h.1,h.2.1,rfl,h.2.2⟩)) (id (by exact λp _ _=>Mi p.1 (AZ N n p.1 p.2.1))) (id (by exact λp _ _=>⟨(GZ p.1 (AW N n p.1 p.2.1)).1,rfl⟩)) KF5 h
theorem Am{X:Ctx}{w0:World}(N:Nat)(n:Nat)(h:L7 N n):(Jm (X:=X) (w0:=w0) N n h).f=53:=rfl
def An{X:Ctx}{w0:World}(N:Nat)(n:Nat)(h:L7 N n)(t:Nat)(args:List SV)(H:Hp):=@id ((Jm (X:=X) (w0:=w0) N n h).fn t args H=spL X _ t H _ _ _ _ _) rfl
attribute [local go_sem] Fn.c ML.ch ML.ren Rz.mem Rz.memO Rz.pan Sm.ar Sm.c Sm.cd Sm.e Sm.el Sm.f Sm.k Sm.no Sm.th Sm.x Sm.y Ok Oj Ol Di Bl Bk Be Bi Bj A9 A8 CK CJ DJ DI chL fcN AM Rn fzR Rq Rt Oq lmH lmO Lb ND NE DH Cj Ck EQ nmX A5 A4 Dz Dh D3 D4 ED E9 Rr Ru Ot E5 EE rnC rzC Rp PK rzW Oo Fx AF Ci DS Cu CU E8 vrQ Rm Oi Kn Km
theorem Ox(N:Nat)(n:Nat)(hu:M8 N n):L7 N n:=by
 rintro ⟨q,l,_u⟩ w M I lab fz xs hc hA hl hx
 refine Bz Tryz.func53 rfl (Rz.mem q) w M I lab fz (Aa N n q l) (Rz.pan (AZ N n q l)) (Rz.memO (AW N n q l)) [(S0 N n hu)] [] ((PM).args ⟨q,l,_u⟩) (Ab N n q l) xs hA hl hx (L4 _ _ _ _) (jN rfl) (Nat.le_refl _) rfl (Mj _) ?_
 clear hx hl hA xs
 simp only[Tryz.f53]
 obtain⟨⟨⟨mb,hl⟩,kb,hk⟩,hM,hn⟩:=hc
 dsimp only at hl hk hM hn
 have hlen:=dg hl
 obtain⟨G,hG⟩:∃G,blZ (stZ n) l q=G:=⟨_,rfl⟩
 simp only[seval,go_sem,xt,↓A0,BV,BW,BX,BZ,isSome_some,isSome_none,S1,S2,DB,DA,Cv,D5,hG]
 refine AC (Y:=Nat×Rz) (λz=>z.1<=l.length/\okZ N n z.2.P z.2.m/\blZ (stZ n) (l.drop z.1) z.2=G)
  (λz=>⟨[(0,true,.one (.p 0 0 0)),(1,true,.one (.p 1 0 0)),(2,true,.one (.d (.sl zSm (l.map Sm.r)))),(6,true,.one (.v (.int .i64 (z.1:Int))))],[(0,.vec 0 zRz [rzC z.2.P z.2.m]),(1,.vec 0 zFz [fzR z.2]),(2,.mp false (isC z.2.is)),(3,.mp false (psC' z.2.ps))]⟩)
  (λz=>l.length-z.1) (0,q) ⟨Nat.zero_le _,hM,hG⟩ ?_ ?_
 .refine A2 [] ?_;simp only[seval,go_sem,xt,↓A0]
 rintro ⟨i,r⟩ ⟨hi,hr,hJ⟩
 dsimp only at hi hr hJ
 refine AP [S0 N n hu] [] _ _ _ ?_
 have w1:IntKind.i64.wrap ((i:Int)+1)=((i+1:Nat):Int):=by rw[wrap_i64 (by omega) (by omega)];rfl
 cases hx:l[i]? with
 |none=>
  have h2:=List.getElem?_eq_none_iff.1 hx
  have h1:=Ai h2
  rw[List.drop_eq_nil_of_le h2]at hJ
  have hJ':r=G:=hJ
  subst hJ'
  simp only[seval,go_sem,xt,↓A0,BV,BW,BX,BZ,isSome_some,isSome_none,S1,S2,DB,DA,Cv,D5,h1,hG]
  repeat refine AX ?_
  refine A1 [] ?_;simp only[seval,go_sem,bne,Ab,Aa,AW,AZ,A3,xt,↓A0,hG]
 |some s=>
 have hlt:=(List.getElem?_eq_some_iff.1 hx).1
 have h1:=Ah hlt
 have h2:=qw hx
 have hsm:=List.mem_of_getElem? hx
 have hT:=qx hl hsm
 obtain⟨hS,k1,k2⟩:smR s/\(∃k,bkR k s.th)/\∃k,bkR k s.el:=by
  cases kb with
  |zero=>exact hk.elim
  |succ k=>exact⟨(hk s hsm).1,⟨k,(hk s hsm).2.1⟩,⟨k,(hk s hsm).2.2⟩⟩
 rw[BF hx]at hJ
 simp only[blZ]at hJ
 cases ho:r.m.on with
 |false=>
  have ho1:(r.m.e==0)=false:=ho
  have hJ':r=G:=by rw[<- hJ];exact(if_neg (by rw[ho];decide)).symm
  subst hJ'
  obtain⟨k0,x0,y0,e0,f0,cd0,ar0,th0,el0,no0⟩:=s
  simp only[seval,go_sem,xt,↓A0,BV,BW,BX,BZ,isSome_some,isSome_none,S1,S2,DB,DA,Cv,D5,h1,ho1,hG]
  repeat refine AX ?_
  refine A1 [] ?_;simp only[seval,go_sem,bne,Ab,Aa,AW,AZ,A3,xt,↓A0,hG]
 |true=>
 have ho1:(r.m.e==0)=true:=ho
 have hk2:=UH n s r ho (hr.k.on ho) (by have:=hr.u;omega)
 obtain⟨T,hT2⟩:∃T,stZ n s r=T:=⟨_,rfl⟩
 rw[if_pos ho,hT2]at hJ
 rw[hT2]at hk2
 have hc1:cG N n r s:=⟨⟨hT,hS,k1,k2⟩,hr,ho,hn⟩
 obtain⟨k0,x0,y0,e0,f0,cd0,ar0,th0,el0,no0⟩:=s
 simp only[seval,go_sem,xt,↓A0,BV,BW,BX,BZ,isSome_some,isSome_none,S1,S2,DB,DA,Cv,D5,h1,h2,ho1,hT2,w1]
 repeat refine AX ?_
 refine⟨(i+1,T),⟨hlt,by show okZ N n T.P T.m;rw[hk2.P];exact hr.kr hk2.m (by have:=hk2.m.u;have:=hr.u;omega),hJ⟩,by dsimp only;omega,A2 [] ?_⟩
 simp only[seval,go_sem,xt,↓A0]
theorem A2Y(h:m.on=false):enZ st P g a m=(0,m):=by unfold enZ;rw[if_pos h]
theorem ek(h:m.on=true)(h2:200<=m.deep):enZ st P g a m=(0,{ m with e:=3 }):=by unfold enZ;rw[if_neg (by rw[h];decide),if_pos h2]
theorem sG{T:Rz}(h:m.on=true)(h2:¬200<=m.deep)(hT:blZ st g.body ⟨P,{ m with deep:=w64i (m.deep+1) },g,isP g.ps a (isL g.ls []),psP' g.ps a (psL' g.ls [])⟩=T):enZ st P g a m=if (T.m.e==1)=true then (T.m.v,{ T.m with deep:=w64i (T.m.deep-1),e:=0 }) else (0,{ T.m with deep:=w64i (T.m.deep-1) }):=by unfold enZ;rw[if_neg (by rw[h];decide),if_neg h2,hT]
abbrev Su(N:Nat)(n:Nat)(p:Pg×Ms)(g:Fn)(va:List Va):Prop:=okZ N n p.1 p.2/\(okF g/\(∃m,okB N m g.body)/\∃k,bkR k g.body)/\Dw g.ps va=true/\n<=1000000000
abbrev Eu(N:Nat)(n:Nat)(p:Pg×Ms)(g:Fn)(va:List Va):SV:=.one (.v (.int .i64 (enZ (stZ n) p.1 g va p.2).1))
abbrev Ew(N:Nat)(n:Nat)(p:Pg×Ms)(g:Fn)(va:List Va):List (Option MV):=[some (rzW p.1 (enZ (stZ n) p.1 g va p.2).2)]
noncomputable abbrev L8:ArgM ((Pg×Ms)×(Fn)×(List Va)×Unit):=(amP (mRz) (amD (cFn) (amD (Mr) am0)))
abbrev Sv(N:Nat)(n:Nat):Prop:=C7 Tryz.prog 36 ((L8).args 0) (L8).mem (λp:(Pg×Ms)×(Fn)×(List Va)×Unit=>Su N n p.1 p.2.1 p.2.2.1) (λp:(Pg×Ms)×(Fn)×(List Va)×Unit=>Eu N n p.1 p.2.1 p.2.2.1) (λp:(Pg×Ms)×(Fn)×(List Va)×Unit=>Ew N n p.1 p.2.1 p.2.2.1)
noncomputable def Ed{X:Ctx}{w0:World}(N:Nat)(n:Nat)(h:Sv N n):Sy.Spec Tryz.prog X w0:=D0 36 Tryz.call36 (L8) _ _ _ KF1 KF0 nw h
attribute[local go_sem] xt in
theorem S3(N:Nat)(n:Nat)(hu:L7 N n):Sv N n:=by
 rintro ⟨p,g,va,_u⟩ w M I lab fz xs hc hA hl hx
 refine Ac Tryz.func36 rfl ((L8).mem ⟨p,g,va,_u⟩) w M I lab fz [(Jm N n hu)] [] ((L8).args 0 ⟨p,g,va,_u⟩) ((λp:(Pg×Ms)×(Fn)×(List Va)×Unit=>Ew N n p.1 p.2.1 p.2.2.1) ⟨p,g,va,_u⟩) ((λp:(Pg×Ms)×(Fn)×(List Va)×Unit=>Eu N n p.1 p.2.1 p.2.2.1) ⟨p,g,va,_u⟩) xs hA hl hx (λv hv k hk=>by have:=(L8).an 0 ⟨p,g,va,_u⟩ v hv k hk;omega) (jN rfl) (jN rfl) ?_
 clear hx hl hA xs
 simp only[Tryz.f36]
 obtain⟨P,m⟩:=p
 obtain⟨gn,gps,gls,gb⟩:=g
 obtain⟨hM,⟨hF,⟨mb,hB⟩,kb,hR⟩,hft,hn⟩:=hc
 dsimp only at hM hF hB hR hft hn
 have hfl:=OA hft
 have hF1:gps.length<=5000:=hF.1
 have hF2:gls.length<=5000:=hF.2
 cases ho:m.on with
 |false=>
  have ho1:(m.e==0)=false:=ho
  have hn1:(m.e != 0)=true:=On ho
  have h:=A2Y (st:=stZ n) (P:=P) (g:=⟨gn,gps,gls,gb⟩) (a:=va) ho
  simp only[seval,go_sem,↓A0,BV,BW,BX,BZ,isSome_some,isSome_none,Am,An,Ab,Aa,AW,AZ,Ad,Ae,ho1,hn1,h]
  repeat refine AX ?_
  refine A1 [] ?_;simp only[seval,go_sem,bne,Eu,Ew,↓A0,h]
 |true=>
 have ho1:(m.e==0)=true:=ho
 have hn1:(m.e != 0)=false:=Om ho
 cases hd:decide (200<=m.deep) with
 |true=>
  have h:=ek (st:=stZ n) (P:=P) (g:=⟨gn,gps,gls,gb⟩) (a:=va) ho (of_decide_eq_true hd)
  simp only[seval,go_sem,↓A0,BV,BW,BX,BZ,isSome_some,isSome_none,Am,An,Ab,Aa,AW,AZ,Ad,Ae,ho1,hn1,hd,h]
  repeat refine AX ?_
  refine A1 [] ?_;simp only[seval,go_sem,bne,Eu,Ew,↓A0,h]
 |false=>
 obtain⟨T,hT⟩:∃T,blZ (stZ n) gb ⟨P,{ m with deep:=w64i (m.deep+1) },⟨gn,gps,gls,gb⟩,isP gps va (isL gls []),psP' gps va (psL' gls [])⟩=T:=⟨_,rfl⟩
 have h:=sG (st:=stZ n) (P:=P) (g:=⟨gn,gps,gls,gb⟩) (a:=va) (m:=m) ho (of_decide_eq_false hd) hT
 simp only[seval,go_sem,↓A0,BV,BW,BX,BZ,isSome_some,isSome_none,Am,An,Ab,Aa,AW,AZ,Ad,Ae,ho1,hn1,hd]
 refine AC (Y:=Nat×Zi×Zp) (λz=>z.1<=gls.length/\isL (gls.drop z.1) z.2.1=isL gls []/\psL' (gls.drop z.1) z.2.2=psL' gls [])
  (λz=>⟨[(0,true,.one (.p 0 0 0)),(2,true,.one (.d (.sl IQ (va.map Va.r)))),(4,true,.one (.p 4 0 0)),(7,true,.one (.p 34 0 0)),(8,true,.one (.v (.int .i64 (z.1:Int))))],[(0,.vec 0 zRz [rzC P ⟨m.fuel,w64i (m.deep+1),m.cs,m.ar,m.e,m.v,m.f,m.al,m.k⟩]),(4,.vec 0 fl4 [[.v (.string (bs gn)),.d (.sl zVr (gps.map Vr.r)),.d (.sl zVr (gls.map Vr.r)),.d (.sl zSm (gb.map Sm.r))]]),(31,.mp false (isC z.2.1)),(32,.mp false (psC' z.2.2)),(34,.vec 0 fl6 [[.v (.string (bs gn)),.d (.sl zVr (gps.map Vr.r)),.d (.sl zVr (gls.map Vr.r)),.d (.sl zSm (gb.map Sm.r)),.s 31,.s 32]])]⟩)
  (λz=>gls.length-z.1) (0,[],[]) ⟨Nat.zero_le _,rfl,rfl⟩ ?_ ?_
 .refine A2 [] ?_;simp only[seval,go_sem,↓A0,fl4,fl6,xg,xh]
 rintro ⟨i,is,ps⟩ ⟨hi,hJ,hJ2⟩
 dsimp only at hi hJ hJ2
 refine AP [Jm N n hu] [] _ _ _ ?_
 have w1:IntKind.i64.wrap ((i:Int)+1)=((i+1:Nat):Int):=by rw[wrap_i64 (by omega) (by omega)];rfl
 cases hx:gls[i]? with
 |some x=>
  have hlt:=(List.getElem?_eq_some_iff.1 hx).1
  have h1:=Ah hlt
  have h2:=XL hx
  rw[BF hx]at hJ hJ2
  simp only[isL]at hJ
  simp only[psL']at hJ2
  cases hp:x.p with
  |true=>
   rw[if_pos hp]at hJ hJ2
   simp only[seval,go_sem,↓A0,BV,BW,BX,BZ,isSome_some,isSome_none,Am,An,Ab,Aa,AW,AZ,Ad,Ae,h1,h2,hp,w1,fl4,fl6]
   repeat refine AX ?_
   refine⟨(i+1,is,B5 ps x.s []),⟨hlt,hJ,hJ2⟩,by dsimp only;omega,A2 [] ?_⟩
   exact sZ
  |false=>
  rw[if_neg (by rw[hp];decide)]at hJ hJ2
  simp only[seval,go_sem,↓A0,BV,BW,BX,BZ,isSome_some,isSome_none,Am,An,Ab,Aa,AW,AZ,Ad,Ae,h1,h2,hp,w1,fl4,fl6]
  repeat refine AX ?_
  refine⟨(i+1,B5 is x.s 0,ps),⟨hlt,hJ,hJ2⟩,by dsimp only;omega,A2 [] ?_⟩
  exact sZ
 |none=>
 have h2:=List.getElem?_eq_none_iff.1 hx
 have h1:=Ai h2
 rw[List.drop_eq_nil_of_le h2]at hJ hJ2
 have hJ':is=isL gls []:=hJ
 have hJ3:ps=psL' gls []:=hJ2
 subst hJ'
 subst hJ3
 clear hJ hJ2 hi w1 hx
 generalize isL gls []=is0 at*
 generalize psL' gls []=ps0 at*
 simp only[seval,go_sem,↓A0,BV,BW,BX,BZ,isSome_some,isSome_none,Am,An,Ab,Aa,AW,AZ,Ad,Ae,h1,fl4,fl6]
 refine AC (Y:=Nat×Zi×Zp) (λz=>z.1<=gps.length/\isP (gps.drop z.1) (va.drop z.1) z.2.1=isP gps va is0/\psP' (gps.drop z.1) (va.drop z.1) z.2.2=psP' gps va ps0)
  (λz=>⟨[(0,true,.one (.p 0 0 0)),(2,true,.one (.d (.sl IQ (va.map Va.r)))),(4,true,.one (.p 4 0 0)),(7,true,.one (.p 34 0 0)),(9,true,.one (.v (.int .i64 (z.1:Int))))],[(0,.vec 0 zRz [rzC P ⟨m.fuel,w64i (m.deep+1),m.cs,m.ar,m.e,m.v,m.f,m.al,m.k⟩]),(4,.vec 0 fl4 [[.v (.string (bs gn)),.d (.sl zVr (gps.map Vr.r)),.d (.sl zVr (gls.map Vr.r)),.d (.sl zSm (gb.map Sm.r))]]),(31,.mp false (isC z.2.1)),(32,.mp false (psC' z.2.2)),(34,.vec 0 fl6 [[.v (.string (bs gn)),.d (.sl zVr (gps.map Vr.r)),.d (.sl zVr (gls.map Vr.r)),.d (.sl zSm (gb.map Sm.r)),.s 31,.s 32]])]⟩)
  (λz=>gps.length-z.1) (0,is0,ps0) ⟨Nat.zero_le _,rfl,rfl⟩ ?_ ?_
 .refine A2 [] ?_;simp only[seval,go_sem,↓A0,fl4,fl6]
 rintro ⟨i,is,ps⟩ ⟨hi,hJ,hJ2⟩
 dsimp only at hi hJ hJ2
 refine AP [Jm N n hu] [] _ _ _ ?_
 have w1:IntKind.i64.wrap ((i:Int)+1)=((i+1:Nat):Int):=by rw[wrap_i64 (by omega) (by omega)];rfl
 cases hx:gps[i]? with
 |some x=>
  have hlt:=(List.getElem?_eq_some_iff.1 hx).1
  have hlt2:i<va.length:=by omega
  have h1:=Ah hlt
  have h2:=XL hx
  obtain⟨y,hy⟩:∃y,va[i]?=some y:=⟨_,List.getElem?_eq_getElem hlt2⟩
  have h3:=Ug hy
  rw[BF hx,BF hy]at hJ hJ2
  simp only[isP]at hJ
  simp only[psP']at hJ2
  cases hp:x.p with
  |true=>
   rw[if_pos hp]at hJ hJ2
   simp only[seval,go_sem,↓A0,BV,BW,BX,BZ,isSome_some,isSome_none,Am,An,Ab,Aa,AW,AZ,Ad,Ae,h1,h2,h3,hp,w1,fl4,fl6]
   repeat refine AX ?_
   refine⟨(i+1,is,B5 ps x.s y.s),⟨hlt,hJ,hJ2⟩,by dsimp only;omega,A2 [] ?_⟩
   exact sZ
  |false=>
  rw[if_neg (by rw[hp];decide)]at hJ hJ2
  simp only[seval,go_sem,↓A0,BV,BW,BX,BZ,isSome_some,isSome_none,Am,An,Ab,Aa,AW,AZ,Ad,Ae,h1,h2,h3,hp,w1,fl4,fl6]
  repeat refine AX ?_
  refine⟨(i+1,B5 is x.s y.n,ps),⟨hlt,hJ,hJ2⟩,by dsimp only;omega,A2 [] ?_⟩
  exact sZ
 |none=>
 have h2:=List.getElem?_eq_none_iff.1 hx
 have h1:=Ai h2
 rw[List.drop_eq_nil_of_le h2,List.drop_eq_nil_of_le (by omega)]at hJ hJ2
 have hJ':is=isP gps va is0:=hJ
 have hJ3:ps=psP' gps va ps0:=hJ2
 rw[<- hJ',<- hJ3]at hT
 have hM1:okZ N n P { m with deep:=w64i (m.deep+1) }:=⟨hM.p,hM.r,hM.c,hM.a,hM.l,hM.k,hM.u⟩
 have hk:=UG (UH n) gb ⟨P,{ m with deep:=w64i (m.deep+1) },⟨gn,gps,gls,gb⟩,is,ps⟩ hM1.k (by have h7:m.fuel<n:=hM.u;show m.fuel<=_;omega)
 rw[hT]at hk
 have hP:T.P=P:=hk.P
 have hc1:Ml N n ⟨P,{ m with deep:=w64i (m.deep+1) },⟨gn,gps,gls,gb⟩,is,ps⟩ gb:=⟨⟨⟨mb,hB⟩,kb,hR⟩,hM1,hn⟩
 cases he:(T.m.e==1) with
 |true=>
  rw[if_pos he]at h
  exact AAQ
 |false=>
 rw[if_neg (by rw[he];decide)]at h
 exact AAQ
end Go.Proofs.YtapedeoheilnnaaGreat
