/- The document's machine: a call as a statement, walked. Conditions: the programs are regular. -/
import Derived.Test.YtapedeoheilnnaaGreatZr7
import Derived.Test.YtapedeoheilnnaaGreatRmd
set_option linter.all false
open Option (isSome_some isSome_none)
open List (map_append)
namespace Go.Proofs.YtapedeoheilnnaaGreat
open Go Go.Sy Go.RowKit
variable{g:Fn}
theorem Y2{s:List UInt8}:∀{l:List Fn},fnG s l=some g->g∈l
 |x::r,h=>by
  simp only[fnG]at h
  split at h
  .rw[Option.some.inj h];exact List.mem_cons_self ..
  exact List.mem_cons_of_mem _ (Y2 h)
theorem rK:cFn.d (.agg [.v (.string (bs [])),.v (.slice none 0 0),.v (.slice none 0 0),.v (.slice none 0 0)])=some ⟨[],[],[],[]⟩:=by
 refine ED (e:=λf:Fn=>.agg f.c) (a:=⟨[],[],[],[]⟩) ?_
 exact⟨Qm _,.inr ⟨rfl,rfl⟩,.inr ⟨rfl,rfl⟩,.inr ⟨rfl,rfl⟩,trivial⟩
theorem A9J{nm:List UInt8}{al:Int}{is:Zi}{ps:Zp}{m:Ms}{x:Ar}{r:List Ar}{l:List Va}(h:x.p=true):(l++(agZ nm al is ps (x::r) m).1,(agZ nm al is ps (x::r) m).2)=((l++[⟨true,0,pgZ ps x.s⟩])++(agZ nm al is ps r m).1,(agZ nm al is ps r m).2):=by
 simp only[agZ];rw[if_pos h];simp
theorem A9K{nm:List UInt8}{al:Int}{is:Zi}{ps:Zp}{m m1:Ms}{v:Int}{x:Ar}{r:List Ar}{l:List Va}(h:x.p=false)(he:evZ nm al is x.e m=(v,m1)):(l++(agZ nm al is ps (x::r) m).1,(agZ nm al is ps (x::r) m).2)=((l++[⟨false,v,[]⟩])++(agZ nm al is ps r m1).1,(agZ nm al is ps r m1).2):=by
 simp only[agZ];rw[if_neg (by rw[h];decide),he];simp
section
variable {st:Sm->Rz->Rz}{s:Sm}{q:Rz}{l:List Va}{m2:Ms}
theorem lT(h:agZ q.f.name s.no q.is q.ps s.ar q.m=(l,m2))(ho:m2.on=false):caZ st s q={ q with m:=m2 }:=by unfold caZ;rw[h];exact if_pos ho
theorem eH(h:agZ q.f.name s.no q.is q.ps s.ar q.m=(l,m2))(ho:m2.on=true)(hf:fnG s.y q.P.fs=none):caZ st s q={ q with m:=m2.zfail q.f.name s.no 4 }:=by
 unfold caZ;rw[h];dsimp only;rw[if_neg (by rw[ho];decide),hf]
theorem eI(h:agZ q.f.name s.no q.is q.ps s.ar q.m=(l,m2))(ho:m2.on=true)(hf:fnG s.y q.P.fs=some g)(hb:Dn g.ps l=false):caZ st s q={ q with m:=m2.zfail q.f.name s.no 4 }:=by
 unfold caZ;rw[h];dsimp only;rw[if_neg (by rw[ho];decide),hf];dsimp only;rw[if_pos hb]
theorem rL{v:Int}{m3:Ms}(h:agZ q.f.name s.no q.is q.ps s.ar q.m=(l,m2))(ho:m2.on=true)(hf:fnG s.y q.P.fs=some g)(hb:Dn g.ps l=true)(he:enZ st q.P g l m2=(v,m3)):caZ st s q=if (s.x==[])=true then { q with m:=m3 } else seZ { q with m:=m3 } s.no s.x v:=by
 unfold caZ;rw[h];dsimp only;rw[if_neg (by rw[ho];decide),hf];dsimp only;rw[if_neg (by rw[hb];decide),he]
end
abbrev Ye(N:Nat)(n:Nat)(q:Rz)(s:Sm):Prop:=OkS N s/\(∀a∈s.ar,a.p=false->exR a.e)/\okZ N n q.P q.m/\q.m.on=true/\n<=1000000000
abbrev B4(N:Nat)(n:Nat)(q:Rz)(s:Sm):Bool:=false
abbrev Au(N:Nat)(n:Nat)(q:Rz)(s:Sm):Rz:=caZ (stZ n) s q
abbrev Az(N:Nat)(n:Nat)(q:Rz)(s:Sm):Rz:=caZ (stZ n) s q
abbrev B5(N:Nat)(n:Nat)(q:Rz)(s:Sm):SV:=.tup []
theorem lU:∀b,∀v∈ArgC.e (acS (cSm) ac0) b,v.tupB=false:=by rintro ⟨x0,_⟩ v hv;simp only[FM,FL,List.mem_cons,List.not_mem_nil,or_false]at hv;subst hv<;>first|rfl|exact FD _|exact FE _
noncomputable abbrev P6:ArgL (Rz×(Sm)×Unit):=amRz (acS (cSm) ac0) lU
abbrev Md(N:Nat)(n:Nat):Prop:=DY Tryz.prog 95 (P6).args (P6).mem (λp:(Rz×(Sm)×Unit)=>Ye N n p.1 p.2.1) (λp:(Rz×(Sm)×Unit)=>B4 N n p.1 p.2.1) (λp:(Rz×(Sm)×Unit)=>B5 N n p.1 p.2.1) (λp:(Rz×(Sm)×Unit)=>Rz.memO (Au N n p.1 p.2.1)) (λp:(Rz×(Sm)×Unit)=>mlO (Rz.pan (Az N n p.1 p.2.1)))
noncomputable def P7{X:Ctx}{w0:World}(N:Nat)(n:Nat)(h:Md N n):Sy.Spec Tryz.prog X w0:=DL 95 Tryz.call95 (P6) _ _ _ _ _ (id (by exact λp _ _=>have h:=GM p.1 (Au N n p.1 p.2.1);⟨h.1,h.2.1,rfl,h.2.2⟩)) (id (by exact λp _ _=>MZ p.1 (Az N n p.1 p.2.1))) (id (by exact λp _ _=>⟨(GM p.1 (Au N n p.1 p.2.1)).1,rfl⟩)) KF3 h
theorem Bg{X:Ctx}{w0:World}(N:Nat)(n:Nat)(h:Md N n):(P7 (X:=X) (w0:=w0) N n h).f=95:=rfl
def Bh{X:Ctx}{w0:World}(N:Nat)(n:Nat)(h:Md N n)(t:Nat)(args:List SV)(H:Hp):=@id ((P7 (X:=X) (w0:=w0) N n h).fn t args H=spL X _ t H _ _ _ _ _) rfl
attribute [local go_sem] Fn.c ML.ch ML.ren Rz.mem Rz.memO Rz.pan Sm.ar Sm.c Sm.cd Sm.e Sm.el Sm.f Sm.k Sm.no Sm.th Sm.x Sm.y OY OX OZ Dd CS CR CA CP CQ AF AE DV DU DO DN chL fcN Ab Re fzR Rg Ri Od lmH lmO LU N3 N4 DJ Cg Ci EG nmX AB AA Dq De Cx Cy EK EJ Rh Rj Oe E1 EH rnC rzC Rf P3 rzW Oc Fl AN Cf DP Cr CO EE vrQ Rc OW Kh Kg
set_option maxRecDepth 20000 in set_option maxHeartbeats 32000000 in
attribute[local go_sem] xt in
theorem pd(N:Nat)(n:Nat)(hE:Se N n):Md N n:=by
 rintro ⟨q,s,_u⟩ w M I lab fz xs hc hA hl hx
 refine Bn Tryz.func95 rfl (Rz.mem q) w M I lab fz (B4 N n q s) (Rz.pan (Az N n q s)) (Rz.memO (Au N n q s)) [AR,(Jb N (y_zEval N)),BO,Gp,F2,(EW N n hE)] [(9,[.fz 1000])] ((P6).args ⟨q,s,_u⟩) (B5 N n q s) xs hA hl hx (Kw _ _ _ _) (jN rfl) (Nat.le_refl _) rfl (Ma _) ?_
 clear hx hl hA xs
 simp only[Tryz.f95]
 obtain⟨hO,hR,hM,ho,hn⟩:=hc
 obtain⟨hoe,hof,hoc,hoa,hol⟩:=hO
 dsimp only at hR hM ho hn
 obtain⟨k0,x0,y0,e0,f0,cd0,ar0,th0,el0,no0⟩:=s
 dsimp only[Sm.ar]at hR hoa hol
 have h0:0<=q.m.fuel:=hM.k.on ho
 obtain⟨A,hA⟩:∃A,agZ q.f.name no0 q.is q.ps ar0 q.m=A:=⟨_,rfl⟩
 have hAl:A.1.length=ar0.length:=by rw[<- hA];exact bZ _ _ _ _ _ _
 simp only[seval,go_sem,↓A0,BK,BL,BM,BN,isSome_some,isSome_none,AR,Ad,BB,BC,B3,B2,As,Ay,BO,Be,Bf,BI,BH,BA,BD,Gp,HQ,F2,FO,EW,Em,El,HF,HG,Af,Ag]
 refine AK (Y:=Nat×List Va×Ms) (λz=>z.1<=ar0.length/\z.2.1.length=z.1/\Kz q.m z.2.2/\(z.2.1++(agZ q.f.name no0 q.is q.ps (ar0.drop z.1) z.2.2).1,(agZ q.f.name no0 q.is q.ps (ar0.drop z.1) z.2.2).2)=A)
  (λz=>⟨[(0,true,.one (.p 0 0 0)),(1,true,.one (.p 1 0 0)),(5,true,.one (.p 5 0 0)),(6,true,.one (.s 1000)),(7,true,.one (.v (.int .i64 (z.1:Int))))],[(0,.vec 0 zRz [rzC q.P z.2.2]),(1,.vec 0 zFz [fzR q]),(2,.mp false (isC q.is)),(3,.mp false (psC' q.ps)),(5,.vec 0 Br [(Sm.mk k0 x0 y0 e0 f0 cd0 ar0 th0 el0 no0).c]),(1000,.vec 0 K1 ((z.2.1).map Va.c))]⟩)
  (λz=>ar0.length-z.1) (0,[],q.m) ⟨Nat.zero_le _,rfl,Kz.refl _,hA⟩ ?_ ?_
 .refine A4 [.nil 6 1000 K1] ?_;simp only[seval,go_sem,↓A0,K1,Br]
 rintro ⟨i,va,m⟩ ⟨hi,hv,hz,hJ⟩
 dsimp only at hi hv hz hJ
 refine AZ [AR,Jb N (y_zEval N),BO,Gp,F2,EW N n hE] [(9,[.fz 1000])] _ _ _ ?_
 have w1:IntKind.i64.wrap ((i:Int)+1)=((i+1:Nat):Int):=by rw[wrap_i64 (by omega) (by omega)];rfl
 obtain⟨zc,za,zl⟩:=hM.kz hz
 cases hx:ar0[i]? with
 |some x=>
  have hlt:=(List.getElem?_eq_some_iff.1 hx).1
  have h1:=B8 hlt
  have h2:=yx hx
  have hxm:=List.mem_of_getElem? hx
  rw[BJ hx]at hJ
  cases hp:x.p with
  |true=>
   rw[A9J hp]at hJ
   obtain⟨t,ht,hg⟩:∃t,pgZ q.ps x.s=t/\((AD q.ps x.s=none/\t=[])∨AD q.ps x.s=some t):=by
    unfold pgZ
    cases AD q.ps x.s with
    |none=>exact⟨_,rfl,.inl ⟨rfl,rfl⟩⟩
    |some t=>exact⟨_,rfl,.inr rfl⟩
   rw[ht]at hJ
   have hc1:(va++[(⟨true,0,t⟩:Va)]).map Va.c=va.map Va.c++[[.v (.bool true),.v (.int .i64 0),.v (.string (bs t))]]:=by rw[map_append];rfl
   rcases hg with⟨hg,rfl⟩|hg
   .skip
    simp only[seval,go_sem,↓A0,BK,BL,BM,BN,isSome_some,isSome_none,AR,Ad,BB,BC,B3,B2,As,Ay,BO,Be,Bf,BI,BH,BA,BD,Gp,HQ,F2,FO,EW,Em,El,HF,HG,Af,Ag,h1,h2,hp,w1,Br,hg]
    refine⟨⟨(by omega),rfl⟩,⟨(by omega),rfl⟩,⟨⟨rfl,.inl rfl⟩,(λq h=>by cases h;rfl),ew _ _ _,(by decide),(by omega),(by omega)⟩,CH (by kernel_rfl),(i+1,va++[(⟨true,0,[]⟩:Va)],m),⟨hlt,by rw[List.length_append,hv];rfl,hz,hJ⟩,by dsimp only;omega,CJ (t:=⟨[(0,true,.one (.p 0 0 0)),(1,true,.one (.p 1 0 0)),(5,true,.one (.p 5 0 0)),(6,true,.one (.s 38)),(7,true,.one (.v (.int .i64 ((i+1:Nat):Int))))],[(0,.vec 0 zRz [rzC q.P m]),(1,.vec 0 zFz [fzR q]),(2,.mp false (isC q.is)),(3,.mp false (psC' q.ps)),(5,.vec 0 Br [(Sm.mk k0 x0 y0 e0 f0 cd0 ar0 th0 el0 no0).c]),(38,.vec 0 K1 ((va++[(⟨true,0,[]⟩:Va)]).map Va.c))]⟩) ?_ ?_⟩
    .rw[hc1]
     refine A4 [] ?_;simp only[seval,go_sem,↓A0,K1,Br,K5,map_append,List.flatMap_append]
    refine A4 [.mv 38 1000] ?_;simp only[seval,go_sem,↓A0,K1,Br,K5,eu,gi,gj,G0,HI,HH,Hu]
   skip
   simp only[seval,go_sem,↓A0,BK,BL,BM,BN,isSome_some,isSome_none,AR,Ad,BB,BC,B3,B2,As,Ay,BO,Be,Bf,BI,BH,BA,BD,Gp,HQ,F2,FO,EW,Em,El,HF,HG,Af,Ag,h1,h2,hp,w1,Br,hg]
   refine⟨⟨(by omega),rfl⟩,⟨(by omega),rfl⟩,⟨⟨rfl,.inl rfl⟩,(λq h=>by cases h;rfl),ew _ _ _,(by decide),(by omega),(by omega)⟩,CH (by kernel_rfl),(i+1,va++[(⟨true,0,t⟩:Va)],m),⟨hlt,by rw[List.length_append,hv];rfl,hz,hJ⟩,by dsimp only;omega,CJ (t:=⟨[(0,true,.one (.p 0 0 0)),(1,true,.one (.p 1 0 0)),(5,true,.one (.p 5 0 0)),(6,true,.one (.s 38)),(7,true,.one (.v (.int .i64 ((i+1:Nat):Int))))],[(0,.vec 0 zRz [rzC q.P m]),(1,.vec 0 zFz [fzR q]),(2,.mp false (isC q.is)),(3,.mp false (psC' q.ps)),(5,.vec 0 Br [(Sm.mk k0 x0 y0 e0 f0 cd0 ar0 th0 el0 no0).c]),(38,.vec 0 K1 ((va++[(⟨true,0,t⟩:Va)]).map Va.c))]⟩) ?_ ?_⟩
   .rw[hc1]
    refine A4 [] ?_;simp only[seval,go_sem,↓A0,K1,Br,K5,map_append,List.flatMap_append]
   refine A4 [.mv 38 1000] ?_;simp only[seval,go_sem,↓A0,K1,Br,K5,eu,gi,gj,G0,HI,HH,Hu]
  |false=>
  obtain⟨E,hE2⟩:∃E,evZ q.f.name no0 q.is x.e m=E:=⟨_,rfl⟩
  obtain⟨v,m1⟩:=E
  have kz:=Hj q.f.name no0 q.is x.e m
  rw[hE2]at kz
  rw[A9K hp hE2]at hJ
  have hce:bW N ⟨q.P,m,q.f,q.is,q.ps⟩ no0 x.e:=⟨zc,hR x hxm hp,hoa x hxm⟩
  have hc1:(va++[(⟨false,v,[]⟩:Va)]).map Va.c=va.map Va.c++[[.v (.bool false),.v (.int .i64 v),.v (.string (bs []))]]:=by rw[map_append];rfl
  simp only[seval,go_sem,↓A0,BK,BL,BM,BN,isSome_some,isSome_none,AR,Ad,BB,BC,B3,B2,As,Ay,BO,Be,Bf,BI,BH,BA,BD,Gp,HQ,F2,FO,EW,Em,El,HF,HG,Af,Ag,h1,h2,hp,w1,Br,hE2]
  refine⟨⟨(by omega),rfl⟩,⟨(by omega),rfl⟩,hce,⟨⟨rfl,.inl rfl⟩,(λq h=>by cases h;rfl),ew _ _ _,(by decide),(by omega),(by omega)⟩,CH (by kernel_rfl),(i+1,va++[(⟨false,v,[]⟩:Va)],m1),⟨hlt,by rw[List.length_append,hv];rfl,hz.tr kz,hJ⟩,by dsimp only;omega,CJ (t:=⟨[(0,true,.one (.p 0 0 0)),(1,true,.one (.p 1 0 0)),(5,true,.one (.p 5 0 0)),(6,true,.one (.s 53)),(7,true,.one (.v (.int .i64 ((i+1:Nat):Int))))],[(0,.vec 0 zRz [rzC q.P m1]),(1,.vec 0 zFz [fzR q]),(2,.mp false (isC q.is)),(3,.mp false (psC' q.ps)),(5,.vec 0 Br [(Sm.mk k0 x0 y0 e0 f0 cd0 ar0 th0 el0 no0).c]),(53,.vec 0 K1 ((va++[(⟨false,v,[]⟩:Va)]).map Va.c))]⟩) ?_ ?_⟩
  .rw[hc1]
   refine A4 [] ?_;simp only[seval,go_sem,↓A0,K1,Br,K5,map_append,List.flatMap_append]
  refine A4 [.mv 53 1000] ?_;simp only[seval,go_sem,↓A0,K1,Br,K5,eu,gi,gj,G0,HI,HH,Hu]
 |none=>
 have h2:=List.getElem?_eq_none_iff.1 hx
 have h1:=B9 h2
 rw[List.drop_eq_nil_of_le h2]at hJ
 have hJ':A=(va,m):=by rw[<- hJ];simp[agZ]
 rw[hJ']at hA hAl
 have hAl2:va.length=ar0.length:=hAl
 clear hJ hJ' hi w1 hx
 have hds:=yG va
 cases ho2:m.on with
 |false=>
  have ho3:(m.e==0)=false:=ho2
  have hn3:(m.e != 0)=true:=Ob ho2
  have h:caZ (stZ n) (.mk k0 x0 y0 e0 f0 cd0 ar0 th0 el0 no0) q={ q with m:=m }:=lT (s:=(.mk k0 x0 y0 e0 f0 cd0 ar0 th0 el0 no0)) hA ho2
  simp only[seval,go_sem,↓A0,BK,BL,BM,BN,isSome_some,isSome_none,AR,Ad,BB,BC,B3,B2,As,Ay,BO,Be,Bf,BI,BH,BA,BD,Gp,HQ,F2,FO,EW,Em,El,HF,HG,Af,Ag,h1,ho3,hn3,h,Br]
  try simp only[A2,A3]
  repeat' first|exact ck|with_reducible apply And.intro|intro _
  all_goals first|exact trivial|exact KZ|(refine A1 [] ?_;simp only[seval,go_sem,bne,B5,B4,Au,Az,A5,↓A0,h])
 |true=>
 have ho3:(m.e==0)=true:=ho2
 have hn3:(m.e != 0)=false:=Oa ho2
 have hpl:q.P.fs.length<=1000000:=hM.p.l
 have hM2:okZ N n q.P m:=hM.kr (hz.kr h0) (by rw[hz.f];exact hM.u)
 cases hf:fnG y0 q.P.fs with
 |none=>
  have hfs:fnSV (fnG y0 q.P.fs)= .tup [.inr [.v (.string (bs [])),.v (.slice none 0 0),.v (.slice none 0 0),.v (.slice none 0 0)],.inl (.v (.bool false))]:=by rw[hf];rfl
  have h:caZ (stZ n) (.mk k0 x0 y0 e0 f0 cd0 ar0 th0 el0 no0) q={ q with m:=m.zfail q.f.name no0 4 }:=eH (s:=(.mk k0 x0 y0 e0 f0 cd0 ar0 th0 el0 no0)) hA ho2 hf
  simp only[seval,go_sem,↓A0,BK,BL,BM,BN,isSome_some,isSome_none,AR,Ad,BB,BC,B3,B2,As,Ay,BO,Be,Bf,BI,BH,BA,BD,Gp,HQ,F2,FO,EW,Em,El,HF,HG,Af,Ag,h1,ho3,hn3,h,hfs,hds,rK,Br,ZG,ZH,OB,OC,K5,K1]
  try simp only[A2,A3]
  repeat' first|exact ck|with_reducible apply And.intro|intro _
  all_goals first|exact hpl|exact KZ|(refine A1 [] ?_;simp only[seval,go_sem,bne,B5,B4,Au,Az,A5,↓A0,h])
 |some g=>
 have hgm:=Y2 hf
 have hfs:fnSV (fnG y0 q.P.fs)= .tup [.inr g.c,.inl (.v (.bool true))]:=by rw[hf];rfl
 obtain⟨hgF,mg,hgB⟩:=hM.p.f g hgm
 obtain⟨kg,hgR⟩:=hM.r g hgm
 have hft:Uv g va:=⟨hgF.1,(by omega)⟩
 cases hb:Dn g.ps va with
 |false=>
  have h:caZ (stZ n) (.mk k0 x0 y0 e0 f0 cd0 ar0 th0 el0 no0) q={ q with m:=m.zfail q.f.name no0 4 }:=eI (s:=(.mk k0 x0 y0 e0 f0 cd0 ar0 th0 el0 no0)) hA ho2 hf hb
  simp only[seval,go_sem,↓A0,BK,BL,BM,BN,isSome_some,isSome_none,AR,Ad,BB,BC,B3,B2,As,Ay,BO,Be,Bf,BI,BH,BA,BD,Gp,HQ,F2,FO,EW,Em,El,HF,HG,Af,Ag,h1,ho3,hn3,h,hfs,hds,hb,Br,ZG,ZH,OB,OC,K5,K1]
  try simp only[A2,A3]
  repeat' first|exact ck|with_reducible apply And.intro|intro _
  all_goals first|exact hpl|exact hft|exact KZ|(refine A1 [] ?_;simp only[seval,go_sem,bne,B5,B4,Au,Az,A5,↓A0,h])
 |true=>
 obtain⟨E,hE2⟩:∃E,enZ (stZ n) q.P g va m=E:=⟨_,rfl⟩
 obtain⟨v,m3⟩:=E
 have hen:Sd N n (q.P,m) g va:=⟨hM2,⟨hgF,⟨mg,hgB⟩,kg,hgR⟩,hb,hn⟩
 have kr:=rH (Tz n) q.P g va m hM2.k (by have:=hM2.u;omega)
 rw[hE2]at kr
 have hc3:m3.cs.length<=1000000:=by rw[kr.c];exact hM2.c
 have h:=rL (st:=stZ n) (s:=(.mk k0 x0 y0 e0 f0 cd0 ar0 th0 el0 no0)) hA ho2 hf hb hE2
 cases hx0:(x0==[]) with
 |true=>
  have hx1:(x0 != [])=false:=by unfold bne;rw[hx0];rfl
  rw[if_pos (show ((Sm.mk k0 x0 y0 e0 f0 cd0 ar0 th0 el0 no0).x==[])=true from hx0)]at h
  simp only[seval,go_sem,↓A0,BK,BL,BM,BN,isSome_some,isSome_none,AR,Ad,BB,BC,B3,B2,As,Ay,BO,Be,Bf,BI,BH,BA,BD,Gp,HQ,F2,FO,EW,Em,El,HF,HG,Af,Ag,h1,ho3,hn3,h,hfs,hds,hb,hE2,hx0,hx1,Br,ZG,ZH,OB,OC,K5,K1]
  try simp only[A2,A3]
  repeat' first|exact ck|with_reducible apply And.intro|intro _
  all_goals first|exact hpl|exact hft|exact hen|exact⟨mg,hgB⟩|exact⟨kg,hgR⟩|exact KZ|(refine A1 [] ?_;simp only[seval,go_sem,bne,B5,B4,Au,Az,A5,↓A0,h])
 |false=>
 have hx1:(x0 != [])=true:=by unfold bne;rw[hx0];rfl
 rw[if_neg (by rw[show ((Sm.mk k0 x0 y0 e0 f0 cd0 ar0 th0 el0 no0).x==[])=false from hx0];decide)]at h
 simp only[seval,go_sem,↓A0,BK,BL,BM,BN,isSome_some,isSome_none,AR,Ad,BB,BC,B3,B2,As,Ay,BO,Be,Bf,BI,BH,BA,BD,Gp,HQ,F2,FO,EW,Em,El,HF,HG,Af,Ag,h1,ho3,hn3,h,hfs,hds,hb,hE2,hx0,hx1,Br,ZG,ZH,OB,OC,K5,K1]
 try simp only[A2,A3]
 repeat' first|exact ck|with_reducible apply And.intro|intro _
 all_goals first|exact hpl|exact hft|exact hen|exact hc3|exact⟨mg,hgB⟩|exact⟨kg,hgR⟩|exact KZ|(refine A1 [] ?_;simp only[seval,go_sem,bne,B5,B4,Au,Az,A5,↓A0,h])
end Go.Proofs.YtapedeoheilnnaaGreat
