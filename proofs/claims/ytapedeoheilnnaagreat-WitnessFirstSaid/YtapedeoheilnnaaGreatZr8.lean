/- The document's machine: a call as a statement, walked. Conditions: the programs are regular. -/
import Derived.Test.YtapedeoheilnnaaGreatZr7
import Derived.Test.YtapedeoheilnnaaGreatRmd
set_option linter.all false
open Option (isSome_some isSome_none)
open List (map_append)
namespace Go.Proofs.YtapedeoheilnnaaGreat
open Go Go.Sy Go.RowKit
theorem ur{P:Prop}(h:P:=by
 rw[hc1]
 refine A2 [] ?_;simp only[seval,go_sem,↓A0,GA,C3,Jb,map_append,List.flatMap_append]):P:=h
theorem AAD{P:Prop}(h:P:=by
 repeat refine AX ?_
 refine A1 [] ?_;simp only[seval,go_sem,bne,B9,B8,Az,B3,A3,↓A0,h]):P:=h
variable{g:Fn}
theorem YE{s:List UInt8}:∀{l:List Fn},fnG s l=some g->g∈l
 |x::r,h=>by
  simp only[fnG]at h
  split at h
  .rw[Option.some.inj h];exact List.mem_cons_self ..
  exact List.mem_cons_of_mem _ (YE h)
theorem sH:cFn.d (.agg [.v (.string (bs [])),.v (.slice none 0 0),.v (.slice none 0 0),.v (.slice none 0 0)])=some ⟨[],[],[],[]⟩:=by
 refine E4 (e:=λf:Fn=>.agg f.c) (a:=⟨[],[],[],[]⟩) ?_
 exact⟨R2 _,.inr ⟨rfl,rfl⟩,.inr ⟨rfl,rfl⟩,.inr ⟨rfl,rfl⟩,trivial⟩
theorem A9Z{nm:List UInt8}{al:Int}{is:Zi}{ps:Zp}{m:Ms}{x:Ar}{r:List Ar}{l:List Va}(h:x.p=true):(l++(agZ nm al is ps (x::r) m).1,(agZ nm al is ps (x::r) m).2)=((l++[⟨true,0,pgZ ps x.s⟩])++(agZ nm al is ps r m).1,(agZ nm al is ps r m).2):=by
 simp only[agZ];rw[if_pos h];simp
theorem A9a{nm:List UInt8}{al:Int}{is:Zi}{ps:Zp}{m m1:Ms}{v:Int}{x:Ar}{r:List Ar}{l:List Va}(h:x.p=false)(he:evZ nm al is x.e m=(v,m1)):(l++(agZ nm al is ps (x::r) m).1,(agZ nm al is ps (x::r) m).2)=((l++[⟨false,v,[]⟩])++(agZ nm al is ps r m1).1,(agZ nm al is ps r m1).2):=by
 simp only[agZ];rw[if_neg (by rw[h];decide),he];simp
section
variable {st:Sm->Rz->Rz}{s:Sm}{q:Rz}{l:List Va}{m2:Ms}
theorem m7(h:agZ q.f.name s.no q.is q.ps s.ar q.m=(l,m2))(ho:m2.on=false):caZ st s q={ q with m:=m2 }:=by unfold caZ;rw[h];exact if_pos ho
theorem eo(h:agZ q.f.name s.no q.is q.ps s.ar q.m=(l,m2))(ho:m2.on=true)(hf:fnG s.y q.P.fs=none):caZ st s q={ q with m:=m2.zfail q.f.name s.no 4 }:=by
 unfold caZ;rw[h];dsimp only;rw[if_neg (by rw[ho];decide),hf]
theorem ep(h:agZ q.f.name s.no q.is q.ps s.ar q.m=(l,m2))(ho:m2.on=true)(hf:fnG s.y q.P.fs=some g)(hb:Dw g.ps l=false):caZ st s q={ q with m:=m2.zfail q.f.name s.no 4 }:=by
 unfold caZ;rw[h];dsimp only;rw[if_neg (by rw[ho];decide),hf];dsimp only;rw[if_pos hb]
theorem sJ{v:Int}{m3:Ms}(h:agZ q.f.name s.no q.is q.ps s.ar q.m=(l,m2))(ho:m2.on=true)(hf:fnG s.y q.P.fs=some g)(hb:Dw g.ps l=true)(he:enZ st q.P g l m2=(v,m3)):caZ st s q=if (s.x==[])=true then { q with m:=m3 } else seZ { q with m:=m3 } s.no s.x v:=by
 unfold caZ;rw[h];dsimp only;rw[if_neg (by rw[ho];decide),hf];dsimp only;rw[if_neg (by rw[hb];decide),he]
end
abbrev Yw(N:Nat)(n:Nat)(q:Rz)(s:Sm):Prop:=OkS N s/\(∀a∈s.ar,a.p=false->exR a.e)/\okZ N n q.P q.m/\q.m.on=true/\n<=1000000000
abbrev B8(N:Nat)(n:Nat)(q:Rz)(s:Sm):Bool:=false
abbrev Az(N:Nat)(n:Nat)(q:Rz)(s:Sm):Rz:=caZ (stZ n) s q
abbrev B3(N:Nat)(n:Nat)(q:Rz)(s:Sm):Rz:=caZ (stZ n) s q
abbrev B9(N:Nat)(n:Nat)(q:Rz)(s:Sm):SV:=.tup []
theorem m8:∀b,∀v∈ArgC.e (acS (cSm) ac0) b,v.tupB=false:=by rintro ⟨x0,_⟩ v hv;simp only[FV,FU,List.mem_cons,List.not_mem_nil,or_false]at hv;subst hv<;>first|rfl|exact FN _|exact FO _
noncomputable abbrev PN:ArgL (Rz×(Sm)×Unit):=amRz (acS (cSm) ac0) m8
abbrev Mm(N:Nat)(n:Nat):Prop:=Dj Tryz.prog 95 (PN).args (PN).mem (λp:(Rz×(Sm)×Unit)=>Yw N n p.1 p.2.1) (λp:(Rz×(Sm)×Unit)=>B8 N n p.1 p.2.1) (λp:(Rz×(Sm)×Unit)=>B9 N n p.1 p.2.1) (λp:(Rz×(Sm)×Unit)=>Rz.memO (Az N n p.1 p.2.1)) (λp:(Rz×(Sm)×Unit)=>mlO (Rz.pan (B3 N n p.1 p.2.1)))
noncomputable def PO{X:Ctx}{w0:World}(N:Nat)(n:Nat)(h:Mm N n):Sy.Spec Tryz.prog X w0:=Dc 95 Tryz.call95 (PN) _ _ _ _ _ (id (by exact λp _ _=>have h:=GZ p.1 (Az N n p.1 p.2.1);⟨h.1,h.2.1,rfl,h.2.2⟩)) (id (by exact λp _ _=>Mi p.1 (B3 N n p.1 p.2.1))) (id (by exact λp _ _=>⟨(GZ p.1 (Az N n p.1 p.2.1)).1,rfl⟩)) KF5 h
theorem Br{X:Ctx}{w0:World}(N:Nat)(n:Nat)(h:Mm N n):(PO (X:=X) (w0:=w0) N n h).f=95:=rfl
def Bs{X:Ctx}{w0:World}(N:Nat)(n:Nat)(h:Mm N n)(t:Nat)(args:List SV)(H:Hp):=@id ((PO (X:=X) (w0:=w0) N n h).fn t args H=spL X _ t H _ _ _ _ _) rfl
attribute [local go_sem] Fn.c ML.ch ML.ren Rz.mem Rz.memO Rz.pan Sm.ar Sm.c Sm.cd Sm.e Sm.el Sm.f Sm.k Sm.no Sm.th Sm.x Sm.y Ok Oj Ol Di Bl Bk Be Bi Bj A9 A8 CK CJ DJ DI chL fcN AM Rn fzR Rq Rt Oq lmH lmO Lb ND NE DH Cj Ck EQ nmX A5 A4 Dz Dh D3 D4 ED E9 Rr Ru Ot E5 EE rnC rzC Rp PK rzW Oo Fx AF Ci DS Cu CU E8 vrQ Rm Oi Kn Km
set_option maxRecDepth 20000 in set_option maxHeartbeats 32000000 in
attribute[local go_sem] xt in
theorem qJ(N:Nat)(n:Nat)(hE:Sv N n):Mm N n:=by
 rintro ⟨q,s,_u⟩ w M I lab fz xs hc hA hl hx
 refine Bz Tryz.func95 rfl (Rz.mem q) w M I lab fz (B8 N n q s) (Rz.pan (B3 N n q s)) (Rz.memO (Az N n q s)) [AU,(Jl N (y_zEval N)),Ba,H9,FA,(Ed N n hE)] [(9,[.fz 1000])] ((PN).args ⟨q,s,_u⟩) (B9 N n q s) xs hA hl hx (L4 _ _ _ _) (jN rfl) (Nat.le_refl _) rfl (Mj _) ?_
 clear hx hl hA xs
 simp only[Tryz.f95]
 obtain⟨hO,hR,hM,ho,hn⟩:=hc
 obtain⟨hoe,hof,hoc,hoa,hol⟩:=hO
 dsimp only at hR hM ho hn
 obtain⟨k0,x0,y0,e0,f0,cd0,ar0,th0,el0,no0⟩:=s
 dsimp only[Sm.ar]at hR hoa hol
 have h0:0<=q.m.fuel:=hM.k.on ho
 obtain⟨A,hA⟩:∃A,agZ q.f.name no0 q.is q.ps ar0 q.m=A:=⟨_,rfl⟩
 have hAl:A.1.length=ar0.length:=by rw[<- hA];exact cE _ _ _ _ _ _
 simp only[seval,go_sem,↓A0,BV,BW,BX,BZ,isSome_some,isSome_none,AU,Ag,BH,BI,B7,B6,Ay,B2,Ba,Bp,Bq,BR,BQ,BE,BK,H9,HV,FA,FX,Ed,Ew,Eu,GL,GM,Ad,Ae]
 refine AC (Y:=Nat×List Va×Ms) (λz=>z.1<=ar0.length/\z.2.1.length=z.1/\Kz q.m z.2.2/\(z.2.1++(agZ q.f.name no0 q.is q.ps (ar0.drop z.1) z.2.2).1,(agZ q.f.name no0 q.is q.ps (ar0.drop z.1) z.2.2).2)=A)
  (λz=>⟨[(0,true,.one (.p 0 0 0)),(1,true,.one (.p 1 0 0)),(5,true,.one (.p 5 0 0)),(6,true,.one (.s 1000)),(7,true,.one (.v (.int .i64 (z.1:Int))))],[(0,.vec 0 zRz [rzC q.P z.2.2]),(1,.vec 0 zFz [fzR q]),(2,.mp false (isC q.is)),(3,.mp false (psC' q.ps)),(5,.vec 0 C3 [(Sm.mk k0 x0 y0 e0 f0 cd0 ar0 th0 el0 no0).c]),(1000,.vec 0 GA ((z.2.1).map Va.c))]⟩)
  (λz=>ar0.length-z.1) (0,[],q.m) ⟨Nat.zero_le _,rfl,Kz.refl _,hA⟩ ?_ ?_
 .refine A2 [.nil 6 1000 GA] ?_;simp only[seval,go_sem,↓A0,GA,C3]
 rintro ⟨i,va,m⟩ ⟨hi,hv,hz,hJ⟩
 dsimp only at hi hv hz hJ
 refine AP [AU,Jl N (y_zEval N),Ba,H9,FA,Ed N n hE] [(9,[.fz 1000])] _ _ _ ?_
 have w1:IntKind.i64.wrap ((i:Int)+1)=((i+1:Nat):Int):=by rw[wrap_i64 (by omega) (by omega)];rfl
 obtain⟨zc,za,zl⟩:=hM.kz hz
 cases hx:ar0[i]? with
 |some x=>
  have hlt:=(List.getElem?_eq_some_iff.1 hx).1
  have h1:=Ah hlt
  have h2:=zN hx
  have hxm:=List.mem_of_getElem? hx
  rw[BF hx]at hJ
  cases hp:x.p with
  |true=>
   rw[A9Z hp]at hJ
   obtain⟨t,ht,hg⟩:∃t,pgZ q.ps x.s=t/\((AH q.ps x.s=none/\t=[])∨AH q.ps x.s=some t):=by
    unfold pgZ
    cases AH q.ps x.s with
    |none=>exact⟨_,rfl,.inl ⟨rfl,rfl⟩⟩
    |some t=>exact⟨_,rfl,.inr rfl⟩
   rw[ht]at hJ
   have hc1:(va++[(⟨true,0,t⟩:Va)]).map Va.c=va.map Va.c++[[.v (.bool true),.v (.int .i64 0),.v (.string (bs t))]]:=by rw[map_append];rfl
   rcases hg with⟨hg,rfl⟩|hg
   .skip
    simp only[seval,go_sem,↓A0,BV,BW,BX,BZ,isSome_some,isSome_none,AU,Ag,BH,BI,B7,B6,Ay,B2,Ba,Bp,Bq,BR,BQ,BE,BK,H9,HV,FA,FX,Ed,Ew,Eu,GL,GM,Ad,Ae,h1,h2,hp,w1,C3,hg]
    refine⟨⟨(by omega),rfl⟩,⟨(by omega),rfl⟩,⟨⟨rfl,.inl rfl⟩,(λq h=>by cases h;rfl),gK _ _ _,(by decide),(by omega),(by omega)⟩,Bn (by kernel_rfl),(i+1,va++[(⟨true,0,[]⟩:Va)],m),⟨hlt,by rw[List.length_append,hv];rfl,hz,hJ⟩,by dsimp only;omega,BU (t:=⟨[(0,true,.one (.p 0 0 0)),(1,true,.one (.p 1 0 0)),(5,true,.one (.p 5 0 0)),(6,true,.one (.s 38)),(7,true,.one (.v (.int .i64 ((i+1:Nat):Int))))],[(0,.vec 0 zRz [rzC q.P m]),(1,.vec 0 zFz [fzR q]),(2,.mp false (isC q.is)),(3,.mp false (psC' q.ps)),(5,.vec 0 C3 [(Sm.mk k0 x0 y0 e0 f0 cd0 ar0 th0 el0 no0).c]),(38,.vec 0 GA ((va++[(⟨true,0,[]⟩:Va)]).map Va.c))]⟩) ?_ ?_⟩
    .exact ur
    refine A2 [.mv 38 1000] ?_;simp only[seval,go_sem,↓A0,GA,C3,Jb,ZS,iM,iN,E0,FF,Ez,G9]
   skip
   simp only[seval,go_sem,↓A0,BV,BW,BX,BZ,isSome_some,isSome_none,AU,Ag,BH,BI,B7,B6,Ay,B2,Ba,Bp,Bq,BR,BQ,BE,BK,H9,HV,FA,FX,Ed,Ew,Eu,GL,GM,Ad,Ae,h1,h2,hp,w1,C3,hg]
   refine⟨⟨(by omega),rfl⟩,⟨(by omega),rfl⟩,⟨⟨rfl,.inl rfl⟩,(λq h=>by cases h;rfl),gK _ _ _,(by decide),(by omega),(by omega)⟩,Bn (by kernel_rfl),(i+1,va++[(⟨true,0,t⟩:Va)],m),⟨hlt,by rw[List.length_append,hv];rfl,hz,hJ⟩,by dsimp only;omega,BU (t:=⟨[(0,true,.one (.p 0 0 0)),(1,true,.one (.p 1 0 0)),(5,true,.one (.p 5 0 0)),(6,true,.one (.s 38)),(7,true,.one (.v (.int .i64 ((i+1:Nat):Int))))],[(0,.vec 0 zRz [rzC q.P m]),(1,.vec 0 zFz [fzR q]),(2,.mp false (isC q.is)),(3,.mp false (psC' q.ps)),(5,.vec 0 C3 [(Sm.mk k0 x0 y0 e0 f0 cd0 ar0 th0 el0 no0).c]),(38,.vec 0 GA ((va++[(⟨true,0,t⟩:Va)]).map Va.c))]⟩) ?_ ?_⟩
   .exact ur
   refine A2 [.mv 38 1000] ?_;simp only[seval,go_sem,↓A0,GA,C3,Jb,ZS,iM,iN,E0,FF,Ez,G9]
  |false=>
  obtain⟨E,hE2⟩:∃E,evZ q.f.name no0 q.is x.e m=E:=⟨_,rfl⟩
  obtain⟨v,m1⟩:=E
  have kz:=Ho q.f.name no0 q.is x.e m
  rw[hE2]at kz
  rw[A9a hp hE2]at hJ
  have hce:cB N ⟨q.P,m,q.f,q.is,q.ps⟩ no0 x.e:=⟨zc,hR x hxm hp,hoa x hxm⟩
  have hc1:(va++[(⟨false,v,[]⟩:Va)]).map Va.c=va.map Va.c++[[.v (.bool false),.v (.int .i64 v),.v (.string (bs []))]]:=by rw[map_append];rfl
  simp only[seval,go_sem,↓A0,BV,BW,BX,BZ,isSome_some,isSome_none,AU,Ag,BH,BI,B7,B6,Ay,B2,Ba,Bp,Bq,BR,BQ,BE,BK,H9,HV,FA,FX,Ed,Ew,Eu,GL,GM,Ad,Ae,h1,h2,hp,w1,C3,hE2]
  refine⟨⟨(by omega),rfl⟩,⟨(by omega),rfl⟩,hce,⟨⟨rfl,.inl rfl⟩,(λq h=>by cases h;rfl),gK _ _ _,(by decide),(by omega),(by omega)⟩,Bn (by kernel_rfl),(i+1,va++[(⟨false,v,[]⟩:Va)],m1),⟨hlt,by rw[List.length_append,hv];rfl,hz.tr kz,hJ⟩,by dsimp only;omega,BU (t:=⟨[(0,true,.one (.p 0 0 0)),(1,true,.one (.p 1 0 0)),(5,true,.one (.p 5 0 0)),(6,true,.one (.s 53)),(7,true,.one (.v (.int .i64 ((i+1:Nat):Int))))],[(0,.vec 0 zRz [rzC q.P m1]),(1,.vec 0 zFz [fzR q]),(2,.mp false (isC q.is)),(3,.mp false (psC' q.ps)),(5,.vec 0 C3 [(Sm.mk k0 x0 y0 e0 f0 cd0 ar0 th0 el0 no0).c]),(53,.vec 0 GA ((va++[(⟨false,v,[]⟩:Va)]).map Va.c))]⟩) ?_ ?_⟩
  .exact ur
  refine A2 [.mv 53 1000] ?_;simp only[seval,go_sem,↓A0,GA,C3,Jb,ZS,iM,iN,E0,FF,Ez,G9]
 |none=>
 have h2:=List.getElem?_eq_none_iff.1 hx
 have h1:=Ai h2
 rw[List.drop_eq_nil_of_le h2]at hJ
 have hJ':A=(va,m):=by rw[<- hJ];simp[agZ]
 rw[hJ']at hA hAl
 have hAl2:va.length=ar0.length:=hAl
 clear hJ hJ' hi w1 hx
 have hds:=kR va
 cases ho2:m.on with
 |false=>
  have ho3:(m.e==0)=false:=ho2
  have hn3:(m.e != 0)=true:=On ho2
  have h:caZ (stZ n) (.mk k0 x0 y0 e0 f0 cd0 ar0 th0 el0 no0) q={ q with m:=m }:=m7 (s:=(.mk k0 x0 y0 e0 f0 cd0 ar0 th0 el0 no0)) hA ho2
  simp only[seval,go_sem,↓A0,BV,BW,BX,BZ,isSome_some,isSome_none,AU,Ag,BH,BI,B7,B6,Ay,B2,Ba,Bp,Bq,BR,BQ,BE,BK,H9,HV,FA,FX,Ed,Ew,Eu,GL,GM,Ad,Ae,h1,ho3,hn3,h,C3]
  exact AAD
 |true=>
 have ho3:(m.e==0)=true:=ho2
 have hn3:(m.e != 0)=false:=Om ho2
 have hpl:q.P.fs.length<=1000000:=hM.p.l
 have hM2:okZ N n q.P m:=hM.kr (hz.kr h0) (by rw[hz.f];exact hM.u)
 cases hf:fnG y0 q.P.fs with
 |none=>
  have hfs:fnSV (fnG y0 q.P.fs)= .tup [.inr [.v (.string (bs [])),.v (.slice none 0 0),.v (.slice none 0 0),.v (.slice none 0 0)],.inl (.v (.bool false))]:=by rw[hf];rfl
  have h:caZ (stZ n) (.mk k0 x0 y0 e0 f0 cd0 ar0 th0 el0 no0) q={ q with m:=m.zfail q.f.name no0 4 }:=eo (s:=(.mk k0 x0 y0 e0 f0 cd0 ar0 th0 el0 no0)) hA ho2 hf
  simp only[seval,go_sem,↓A0,BV,BW,BX,BZ,isSome_some,isSome_none,AU,Ag,BH,BI,B7,B6,Ay,B2,Ba,Bp,Bq,BR,BQ,BE,BK,H9,HV,FA,FX,Ed,Ew,Eu,GL,GM,Ad,Ae,h1,ho3,hn3,h,hfs,hds,sH,C3,Zb,Zc,LO,LP,Jb,GA]
  exact AAD
 |some g=>
 have hgm:=YE hf
 have hfs:fnSV (fnG y0 q.P.fs)= .tup [.inr g.c,.inl (.v (.bool true))]:=by rw[hf];rfl
 obtain⟨hgF,mg,hgB⟩:=hM.p.f g hgm
 obtain⟨kg,hgR⟩:=hM.r g hgm
 have hft:VD g va:=⟨hgF.1,(by omega)⟩
 cases hb:Dw g.ps va with
 |false=>
  have h:caZ (stZ n) (.mk k0 x0 y0 e0 f0 cd0 ar0 th0 el0 no0) q={ q with m:=m.zfail q.f.name no0 4 }:=ep (s:=(.mk k0 x0 y0 e0 f0 cd0 ar0 th0 el0 no0)) hA ho2 hf hb
  simp only[seval,go_sem,↓A0,BV,BW,BX,BZ,isSome_some,isSome_none,AU,Ag,BH,BI,B7,B6,Ay,B2,Ba,Bp,Bq,BR,BQ,BE,BK,H9,HV,FA,FX,Ed,Ew,Eu,GL,GM,Ad,Ae,h1,ho3,hn3,h,hfs,hds,hb,C3,Zb,Zc,LO,LP,Jb,GA]
  exact AAD
 |true=>
 obtain⟨E,hE2⟩:∃E,enZ (stZ n) q.P g va m=E:=⟨_,rfl⟩
 obtain⟨v,m3⟩:=E
 have hen:Su N n (q.P,m) g va:=⟨hM2,⟨hgF,⟨mg,hgB⟩,kg,hgR⟩,hb,hn⟩
 have kr:=sE (UH n) q.P g va m hM2.k (by have:=hM2.u;omega)
 rw[hE2]at kr
 have hc3:m3.cs.length<=1000000:=by rw[kr.c];exact hM2.c
 have h:=sJ (st:=stZ n) (s:=(.mk k0 x0 y0 e0 f0 cd0 ar0 th0 el0 no0)) hA ho2 hf hb hE2
 cases hx0:(x0==[]) with
 |true=>
  have hx1:(x0 != [])=false:=by unfold bne;rw[hx0];rfl
  rw[if_pos (show ((Sm.mk k0 x0 y0 e0 f0 cd0 ar0 th0 el0 no0).x==[])=true from hx0)]at h
  simp only[seval,go_sem,↓A0,BV,BW,BX,BZ,isSome_some,isSome_none,AU,Ag,BH,BI,B7,B6,Ay,B2,Ba,Bp,Bq,BR,BQ,BE,BK,H9,HV,FA,FX,Ed,Ew,Eu,GL,GM,Ad,Ae,h1,ho3,hn3,h,hfs,hds,hb,hE2,hx0,hx1,C3,Zb,Zc,LO,LP,Jb,GA]
  try simp only[AD,AE]
  repeat' first|exact ck|with_reducible apply And.intro|intro _
  all_goals first|exact hpl|exact hft|exact hen|exact⟨mg,hgB⟩|exact⟨kg,hgR⟩|exact KZ|(refine A1 [] ?_;simp only[seval,go_sem,bne,B9,B8,Az,B3,A3,↓A0,h])
 |false=>
 have hx1:(x0 != [])=true:=by unfold bne;rw[hx0];rfl
 rw[if_neg (by rw[show ((Sm.mk k0 x0 y0 e0 f0 cd0 ar0 th0 el0 no0).x==[])=false from hx0];decide)]at h
 simp only[seval,go_sem,↓A0,BV,BW,BX,BZ,isSome_some,isSome_none,AU,Ag,BH,BI,B7,B6,Ay,B2,Ba,Bp,Bq,BR,BQ,BE,BK,H9,HV,FA,FX,Ed,Ew,Eu,GL,GM,Ad,Ae,h1,ho3,hn3,h,hfs,hds,hb,hE2,hx0,hx1,C3,Zb,Zc,LO,LP,Jb,GA]
 try simp only[AD,AE]
 repeat' first|exact ck|with_reducible apply And.intro|intro _
 all_goals first|exact hpl|exact hft|exact hen|exact hc3|exact⟨mg,hgB⟩|exact⟨kg,hgR⟩|exact KZ|(refine A1 [] ?_;simp only[seval,go_sem,bne,B9,B8,Az,B3,A3,↓A0,h])
end Go.Proofs.YtapedeoheilnnaaGreat
