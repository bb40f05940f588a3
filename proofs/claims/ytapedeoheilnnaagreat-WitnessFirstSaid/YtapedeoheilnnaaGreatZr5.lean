/- The document's frame: places, functions by name, walked. Conditions: how many cells and arrays there are. -/
import Derived.Test.YtapedeoheilnnaaGreatZr4
import Derived.Test.YtapedeoheilnnaaGreatRst
set_option linter.all false
set_option maxRecDepth 20000
set_option maxHeartbeats 16000000
open Option (isSome_some isSome_none)
namespace Go.Proofs.YtapedeoheilnnaaGreat
open Go Go.Sy Go.RowKit
theorem aS{P:Prop}(h:P:=by
 repeat refine AX ?_
 refine A1 [] ?_;simp only[seval,go_sem,bne,CH,CG,C1,CA,A3,↓A0,h]):P:=h
theorem oJ{P:Prop}(h:P:=by refine A1 [] ?_;simp only[seval,go_sem,bne,CC,CB,C0,C2,A3,↓A0,h]):P:=h
theorem AAG{P:Prop}(h:P:=by
 repeat refine AX ?_
 refine A1 [] ?_;simp only[seval,go_sem,bne,BR,BQ,BE,BK,A3,↓A0,h]):P:=h
variable{X:Ctx}{w0:World}
abbrev xV(q:Rz)(al:Int)(s:List UInt8)(v:Int):Prop:=q.m.cs.length<=1000000
abbrev BQ(q:Rz)(al:Int)(s:List UInt8)(v:Int):Bool:=false
abbrev BE(q:Rz)(al:Int)(s:List UInt8)(v:Int):Rz:=seZ q al s v
abbrev BK(q:Rz)(al:Int)(s:List UInt8)(v:Int):Rz:=seZ q al s v
abbrev BR(q:Rz)(al:Int)(s:List UInt8)(v:Int):SV:=.tup []
theorem xW:∀b,∀v∈ArgC.e (acS (cInt .i64) (acS (cStr) (acS (cInt .i64) ac0))) b,v.tupB=false:=by rintro ⟨x0,x1,x2,_⟩ v hv;simp only[FV,FU,List.mem_cons,List.not_mem_nil,or_false]at hv;rcases hv with rfl|rfl|rfl<;>first|rfl|exact FN _|exact FO _
noncomputable abbrev UA:ArgL (Rz×(Int)×(List UInt8)×(Int)×Unit):=amRz (acS (cInt .i64) (acS (cStr) (acS (cInt .i64) ac0))) xW
abbrev UB:Prop:=Dj Tryz.prog 91 (UA).args (UA).mem (λp:(Rz×(Int)×(List UInt8)×(Int)×Unit)=>xV p.1 p.2.1 p.2.2.1 p.2.2.2.1) (λp:(Rz×(Int)×(List UInt8)×(Int)×Unit)=>BQ p.1 p.2.1 p.2.2.1 p.2.2.2.1) (λp:(Rz×(Int)×(List UInt8)×(Int)×Unit)=>BR p.1 p.2.1 p.2.2.1 p.2.2.2.1) (λp:(Rz×(Int)×(List UInt8)×(Int)×Unit)=>Rz.memO (BE p.1 p.2.1 p.2.2.1 p.2.2.2.1)) (λp:(Rz×(Int)×(List UInt8)×(Int)×Unit)=>mlO (Rz.pan (BK p.1 p.2.1 p.2.2.1 p.2.2.2.1)))
noncomputable def YA{X:Ctx}{w0:World}(h:UB):Sy.Spec Tryz.prog X w0:=Dc 91 Tryz.call91 (UA) _ _ _ _ _ (id (by exact λp _ _=>have h:=GZ p.1 (BE p.1 p.2.1 p.2.2.1 p.2.2.2.1);⟨h.1,h.2.1,rfl,h.2.2⟩)) (id (by exact λp _ _=>Mi p.1 (BK p.1 p.2.1 p.2.2.1 p.2.2.2.1))) (id (by exact λp _ _=>⟨(GZ p.1 (BE p.1 p.2.1 p.2.2.1 p.2.2.2.1)).1,rfl⟩)) KF5 h
theorem Bp(h:UB):(YA (X:=X) (w0:=w0) h).f=91:=rfl
def Bq{X:Ctx}{w0:World}(h:UB)(t:Nat)(args:List SV)(H:Hp):=@id ((YA (X:=X) (w0:=w0) h).fn t args H=spL X _ t H _ _ _ _ _) rfl
attribute[local go_sem] Fn.c ML.ch ML.ren Rz.mem Rz.memO Rz.pan Sm.ar Sm.c Sm.cd Sm.e Sm.el Sm.f Sm.k Sm.no Sm.th Sm.x Sm.y Ok Oj Ol Di Bl Bk Be Bi Bj A9 A8 CK CJ DJ DI chL fcN AM Rn fzR Rq Rt Oq lmH lmO Lb ND NE DH Cj Ck EQ BV BX BZ BW nmX A5 A4 Dz Dh D3 D4 ED E9 Rr Ru Ot E5 EE rnC rzC Rp PK rzW Oo Fx AF Ci DS Cu CU E8 vrQ xt Jk BO Ag PL B1 AU Jj BN Rm Oi Kn Km in
theorem A2P:UB:=by
 rintro ⟨q,al,s,v,_u⟩ w M I lab fz xs hc hA hl hx
 refine Bz Tryz.func91 rfl (Rz.mem q) w M I lab fz (BQ q al s v) (Rz.pan (BK q al s v)) (Rz.memO (BE q al s v)) [AU,B1] [] ((UA).args ⟨q,al,s,v,_u⟩) (BR q al s v) xs hA hl hx (L4 _ _ _ _) (jN rfl) (Nat.le_refl _) rfl (Mj _) ?_
 clear hx hl hA xs
 simp only[Tryz.f91]
 have hc1:q.m.cs.length<=1000000:=hc
 cases ho:q.m.on with
 |false=>
  have ho1:(q.m.e==0)=false:=ho
  have hn1:(q.m.e != 0)=true:=On ho
  have h:seZ q al s v=q:=by unfold seZ;rw[if_pos ho]
  simp only[seval,go_sem,↓A0,isSome_some,isSome_none,h,ho1,hn1]
  exact AAG
 |true=>
 have ho1:(q.m.e==0)=true:=ho
 have hn1:(q.m.e != 0)=false:=Om ho
 have hoF:¬q.m.on=false:=by rw[ho];decide
 cases h1:AH q.is s with
 |some u=>
  have h:seZ q al s v={ q with is:=B5 q.is s v }:=by unfold seZ;rw[if_neg hoF,h1]
  simp only[seval,go_sem,↓A0,isSome_some,isSome_none,h,h1,ho1,hn1]
  exact AAG
 |none=>
 have hcx:=q.m.cx_rg s
 cases h2:decide (0<=q.m.cx s) with
 |true=>
  have h3:=of_decide_eq_true h2
  have h:seZ q al s v={ q with m:=q.m.set (q.m.cx s) v }:=by unfold seZ;rw[if_neg hoF,h1];exact if_pos h3
  have hg:=MR (l:=q.m.cs) (i:=q.m.cx s) ⟨h3,hcx.2⟩
  simp only[seval,go_sem,↓A0,isSome_some,isSome_none,h,h1,h2,ho1,hn1,hg,Ms.set,Vj]
  have:=hcx.2;repeat refine AX ?_
  refine A1 [] ?_;simp only[seval,go_sem,bne,BR,BQ,BE,BK,A3,↓A0,h,Ms.set]
 |false=>
 have h3:=of_decide_eq_false h2
 have h:seZ q al s v={ q with m:=q.m.zfail q.f.name al 4 }:=by unfold seZ;rw[if_neg hoF,h1];exact if_neg h3
 simp only[seval,go_sem,↓A0,isSome_some,isSome_none,h,h1,h2,ho1,hn1]
 exact AAG
noncomputable def Ba{X:Ctx}{w0:World}:Sy.Spec Tryz.prog X w0:=YA A2P
abbrev xX(q:Rz)(al:Int)(s:List UInt8):Prop:=q.m.cs.length<=1000000
abbrev CG(q:Rz)(al:Int)(s:List UInt8):Bool:=false
abbrev C1(q:Rz)(al:Int)(s:List UInt8):Rz:={ q with m:=(thZ q al s).2 }
abbrev CA(q:Rz)(al:Int)(s:List UInt8):Rz:={ q with m:=(thZ q al s).2 }
abbrev CH(q:Rz)(al:Int)(s:List UInt8):SV:=.one (.v (.int .i64 (thZ q al s).1))
theorem xY:∀b,∀v∈ArgC.e (acS (cInt .i64) (acS (cStr) ac0)) b,v.tupB=false:=by rintro ⟨x0,x1,_⟩ v hv;simp only[FV,FU,List.mem_cons,List.not_mem_nil,or_false]at hv;rcases hv with rfl|rfl<;>first|rfl|exact FN _|exact FO _
noncomputable abbrev UC:ArgL (Rz×(Int)×(List UInt8)×Unit):=amRz (acS (cInt .i64) (acS (cStr) ac0)) xY
abbrev UD:Prop:=Dj Tryz.prog 93 (UC).args (UC).mem (λp:(Rz×(Int)×(List UInt8)×Unit)=>xX p.1 p.2.1 p.2.2.1) (λp:(Rz×(Int)×(List UInt8)×Unit)=>CG p.1 p.2.1 p.2.2.1) (λp:(Rz×(Int)×(List UInt8)×Unit)=>CH p.1 p.2.1 p.2.2.1) (λp:(Rz×(Int)×(List UInt8)×Unit)=>Rz.memO (C1 p.1 p.2.1 p.2.2.1)) (λp:(Rz×(Int)×(List UInt8)×Unit)=>mlO (Rz.pan (CA p.1 p.2.1 p.2.2.1)))
noncomputable def YB{X:Ctx}{w0:World}(h:UD):Sy.Spec Tryz.prog X w0:=Dc 93 Tryz.call93 (UC) _ _ _ _ _ (id (by exact λp _ _=>have h:=GZ p.1 (C1 p.1 p.2.1 p.2.2.1);⟨h.1,h.2.1,rfl,h.2.2⟩)) (id (by exact λp _ _=>Mi p.1 (CA p.1 p.2.1 p.2.2.1))) (id (by exact λp _ _=>⟨(GZ p.1 (C1 p.1 p.2.1 p.2.2.1)).1,rfl⟩)) KF5 h
theorem Co(h:UD):(YB (X:=X) (w0:=w0) h).f=93:=rfl
def Cp{X:Ctx}{w0:World}(h:UD)(t:Nat)(args:List SV)(H:Hp):=@id ((YB (X:=X) (w0:=w0) h).fn t args H=spL X _ t H _ _ _ _ _) rfl
attribute[local go_sem] Fn.c ML.ch ML.ren Rz.mem Rz.memO Rz.pan Sm.ar Sm.c Sm.cd Sm.e Sm.el Sm.f Sm.k Sm.no Sm.th Sm.x Sm.y Ok Oj Ol Di Bl Bk Be Bi Bj A9 A8 CK CJ DJ DI chL fcN AM Rn fzR Rq Rt Oq lmH lmO Lb ND NE DH Cj Ck EQ BV BX BZ BW nmX A5 A4 Dz Dh D3 D4 ED E9 Rr Ru Ot E5 EE rnC rzC Rp PK rzW Oo Fx AF Ci DS Cu CU E8 vrQ xt Jk BO Ag PL B1 AU Jj BN Rm Oi Kn Km in
theorem A2Q:UD:=by
 rintro ⟨q,al,s,_u⟩ w M I lab fz xs hc hA hl hx
 refine Bz Tryz.func93 rfl (Rz.mem q) w M I lab fz (CG q al s) (Rz.pan (CA q al s)) (Rz.memO (C1 q al s)) [AU,B1] [] ((UC).args ⟨q,al,s,_u⟩) (CH q al s) xs hA hl hx (L4 _ _ _ _) (jN rfl) (Nat.le_refl _) rfl (Mj _) ?_
 clear hx hl hA xs
 simp only[Tryz.f93]
 have hc1:q.m.cs.length<=1000000:=hc
 cases ho:q.m.on with
 |false=>
  have ho1:(q.m.e==0)=false:=ho
  have hn1:(q.m.e != 0)=true:=On ho
  have h:thZ q al s=(-1,q.m):=by unfold thZ;rw[if_pos ho]
  simp only[seval,go_sem,↓A0,isSome_some,isSome_none,h,ho1,hn1]
  exact aS
 |true=>
 have ho1:(q.m.e==0)=true:=ho
 have hn1:(q.m.e != 0)=false:=Om ho
 have hoF:¬q.m.on=false:=by rw[ho];decide
 cases h1:AH q.ps s with
 |none=>
  have h2:pgZ q.ps s=[]:=by unfold pgZ;rw[h1];rfl
  have h:thZ q al s=(-1,q.m.zfail q.f.name al 2):=by unfold thZ;rw[if_neg hoF,h2];rfl
  simp only[seval,go_sem,↓A0,isSome_some,isSome_none,h,h1,ho1,hn1,Vk]
  exact aS
 |some t=>
 have h2:pgZ q.ps s=t:=by unfold pgZ;rw[h1];rfl
 have hcx:=q.m.cx_rg t
 cases h3:(t==[]) with
 |true=>
  have h:thZ q al s=(-1,q.m.zfail q.f.name al 2):=by unfold thZ;rw[if_neg hoF,h2,if_pos h3]
  simp only[seval,go_sem,↓A0,isSome_some,isSome_none,h,h1,ho1,hn1,h3]
  exact aS
 |false=>
 cases h4:decide (q.m.cx t<0) with
 |true=>
  have h:thZ q al s=(-1,q.m.zfail q.f.name al 2):=by unfold thZ;rw[if_neg hoF,h2,if_neg (by rw[h3];decide),if_pos (of_decide_eq_true h4)]
  simp only[seval,go_sem,↓A0,isSome_some,isSome_none,h,h1,ho1,hn1,h3,h4]
  exact aS
 |false=>
 have h:thZ q al s=(q.m.cx t,q.m):=by unfold thZ;rw[if_neg hoF,h2,if_neg (by rw[h3];decide),if_neg (of_decide_eq_false h4)]
 simp only[seval,go_sem,↓A0,isSome_some,isSome_none,h,h1,ho1,hn1,h3,h4]
 exact aS
noncomputable def CY{X:Ctx}{w0:World}:Sy.Spec Tryz.prog X w0:=YB A2Q
abbrev xZ(q:Rz)(al:Int)(s:List UInt8)(i:Int):Prop:=q.m.ar.length<=1000000/\∀a∈q.m.ar,a.l.length<=1000000000
abbrev CB(q:Rz)(al:Int)(s:List UInt8)(i:Int):Bool:=false
abbrev C0(q:Rz)(al:Int)(s:List UInt8)(i:Int):Rz:={ q with m:=(idZ q al s i).2 }
abbrev C2(q:Rz)(al:Int)(s:List UInt8)(i:Int):Rz:={ q with m:=(idZ q al s i).2 }
abbrev CC(q:Rz)(al:Int)(s:List UInt8)(i:Int):SV:=.tup [.inl (.v (.int .i64 (idZ q al s i).1.1)),.inl (.v (.int .i64 (idZ q al s i).1.2))]
theorem xc:∀b,∀v∈ArgC.e (acS (cInt .i64) (acS (cStr) (acS (cInt .i64) ac0))) b,v.tupB=false:=by rintro ⟨x0,x1,x2,_⟩ v hv;simp only[FV,FU,List.mem_cons,List.not_mem_nil,or_false]at hv;rcases hv with rfl|rfl|rfl<;>first|rfl|exact FN _|exact FO _
noncomputable abbrev UE:ArgL (Rz×(Int)×(List UInt8)×(Int)×Unit):=amRz (acS (cInt .i64) (acS (cStr) (acS (cInt .i64) ac0))) xc
abbrev UF:Prop:=Dj Tryz.prog 94 (UE).args (UE).mem (λp:(Rz×(Int)×(List UInt8)×(Int)×Unit)=>xZ p.1 p.2.1 p.2.2.1 p.2.2.2.1) (λp:(Rz×(Int)×(List UInt8)×(Int)×Unit)=>CB p.1 p.2.1 p.2.2.1 p.2.2.2.1) (λp:(Rz×(Int)×(List UInt8)×(Int)×Unit)=>CC p.1 p.2.1 p.2.2.1 p.2.2.2.1) (λp:(Rz×(Int)×(List UInt8)×(Int)×Unit)=>Rz.memO (C0 p.1 p.2.1 p.2.2.1 p.2.2.2.1)) (λp:(Rz×(Int)×(List UInt8)×(Int)×Unit)=>mlO (Rz.pan (C2 p.1 p.2.1 p.2.2.1 p.2.2.2.1)))
noncomputable def YC{X:Ctx}{w0:World}(h:UF):Sy.Spec Tryz.prog X w0:=Dc 94 Tryz.call94 (UE) _ _ _ _ _ (id (by exact λp _ _=>have h:=GZ p.1 (C0 p.1 p.2.1 p.2.2.1 p.2.2.2.1);⟨h.1,h.2.1,rfl,h.2.2⟩)) (id (by exact λp _ _=>Mi p.1 (C2 p.1 p.2.1 p.2.2.1 p.2.2.2.1))) (id (by exact λp _ _=>⟨(GZ p.1 (C0 p.1 p.2.1 p.2.2.1 p.2.2.2.1)).1,rfl⟩)) KF5 h
theorem Cr(h:UF):(YC (X:=X) (w0:=w0) h).f=94:=rfl
def Cs{X:Ctx}{w0:World}(h:UF)(t:Nat)(args:List SV)(H:Hp):=@id ((YC (X:=X) (w0:=w0) h).fn t args H=spL X _ t H _ _ _ _ _) rfl
attribute[local go_sem] Fn.c ML.ch ML.ren Rz.mem Rz.memO Rz.pan Sm.ar Sm.c Sm.cd Sm.e Sm.el Sm.f Sm.k Sm.no Sm.th Sm.x Sm.y Ok Oj Ol Di Bl Bk Be Bi Bj A9 A8 CK CJ DJ DI chL fcN AM Rn fzR Rq Rt Oq lmH lmO Lb ND NE DH Cj Ck EQ BV BX BZ BW nmX A5 A4 Dz Dh D3 D4 ED E9 Rr Ru Ot E5 EE rnC rzC Rp PK rzW Oo Fx AF Ci DS Cu CU E8 vrQ xt Jk BO Ag PL B1 AU Jj BN Rm Oi Kn Km in
theorem A2R:UF:=by
 rintro ⟨q,al,s,i,_u⟩ w M I lab fz xs hc hA hl hx
 refine Bz Tryz.func94 rfl (Rz.mem q) w M I lab fz (CB q al s i) (Rz.pan (C2 q al s i)) (Rz.memO (C0 q al s i)) [AU,PL] [] ((UE).args ⟨q,al,s,i,_u⟩) (CC q al s i) xs hA hl hx (L4 _ _ _ _) (jN rfl) (Nat.le_refl _) rfl (Mj _) ?_
 clear hx hl hA xs
 simp only[Tryz.f94]
 obtain⟨hc1,hc2⟩:=hc
 dsimp only at hc1 hc2
 cases ho:q.m.on with
 |false=>
  have ho1:(q.m.e==0)=false:=ho
  have hn1:(q.m.e != 0)=true:=On ho
  have h:idZ q al s i=((-1,-1),q.m):=by unfold idZ;rw[if_pos ho]
  simp only[seval,go_sem,↓A0,isSome_some,isSome_none,h,ho1,hn1]
  repeat refine AX ?_
  exact oJ
 |true=>
 have ho1:(q.m.e==0)=true:=ho
 have hn1:(q.m.e != 0)=false:=Om ho
 have hoF:¬q.m.on=false:=by rw[ho];decide
 have hax:=q.m.ax_rg s
 cases h1:decide (q.m.ax s<0) with
 |true=>
  have h:idZ q al s i=((-1,-1),q.m.zfail q.f.name al 4):=by unfold idZ;rw[if_neg hoF,if_pos (of_decide_eq_true h1)]
  simp only[seval,go_sem,↓A0,isSome_some,isSome_none,h,h1,ho1,hn1]
  repeat refine AX ?_
  exact oJ
 |false=>
 have h2:=of_decide_eq_false h1
 have h20:0<=q.m.ax s:=by omega
 have hg:=Q9 (l:=q.m.ar) (i:=q.m.ax s) ⟨h20,hax.2⟩
 have ha:(q.m.ar.getD (q.m.ax s).toNat ⟨[],[]⟩).l.length<=1000000000:=hc2 _ (by
  have:(q.m.ax s).toNat<q.m.ar.length:=by omega
  rw[List.getD,List.getElem?_eq_getElem this];exact List.getElem_mem this)
 cases n1:decide (i<0) with
 |true=>
  have h:idZ q al s i=((-1,-1),q.m.zfail q.f.name al 1):=by unfold idZ;rw[if_neg hoF,if_neg h2,if_pos (.inl (of_decide_eq_true n1))]
  simp only[seval,go_sem,↓A0,isSome_some,isSome_none,h,h1,hg,n1,ho1,hn1]
  have:=hax.2;repeat refine AX ?_
  exact oJ
 |false=>
 cases n2:decide (((q.m.ar.getD (q.m.ax s).toNat ⟨[],[]⟩).l.length:Int)<=i) with
 |true=>
  have h:idZ q al s i=((-1,-1),q.m.zfail q.f.name al 1):=by unfold idZ;rw[if_neg hoF,if_neg h2,if_pos (.inr (of_decide_eq_true n2))]
  simp only[seval,go_sem,↓A0,isSome_some,isSome_none,h,h1,hg,n1,n2,ho1,hn1]
  have:=hax.2;repeat refine AX ?_
  exact oJ
 |false=>
 have m1:=of_decide_eq_false n1
 have m2:=of_decide_eq_false n2
 have h:idZ q al s i=((q.m.ax s,i),q.m):=by unfold idZ;rw[if_neg hoF,if_neg h2,if_neg (λhh=>by rcases hh with hh|hh;exact m1 hh;exact m2 hh)]
 simp only[seval,go_sem,↓A0,isSome_some,isSome_none,h,h1,hg,n1,n2,ho1,hn1]
 have:=hax.2;repeat refine AX ?_
 exact oJ
noncomputable def CZ{X:Ctx}{w0:World}:Sy.Spec Tryz.prog X w0:=YC A2R
abbrev Rx:List C:=tgN 77 4
def Hj:List C:=[.v (.string (bs [])),.v (.slice none 0 0),.v (.slice none 0 0),.v (.slice none 0 0)]
def fnSV:Option Fn->SV
 |some g=>.tup [.inr g.c,.inl (.v (.bool true))]
 |none=>.tup [.inr Hj,.inl (.v (.bool false))]
theorem xd:∀o,(fnSV o).names=[]:=by intro o;cases o<;>rfl
theorem A2S{l:List Fn}{i:Nat}{x:Fn}(h:l[i]?=some x)(z:List D):(l.map Fn.r).getD i z=[.v (.string (bs x.name)),.sl zVr (x.ps.map Vr.r),.sl zVr (x.ls.map Vr.r),.sl zSm (x.body.map Sm.r)]:=by simp[List.getD,h,Fn.r]
abbrev A2T(p:Pg)(s:List UInt8):Prop:=p.fs.length<=1000000
abbrev HV(p:Pg)(s:List UInt8):SV:=fnSV (fnG s p.fs)
noncomputable abbrev cD:ArgC ((Pg)×(List UInt8)×Unit):=(acS (cPg) (acS (cStr) ac0))
abbrev A2U:Prop:=Ca Tryz.prog 33 cD (λp:(Pg)×(List UInt8)×Unit=>A2T p.1 p.2.1) (λp:(Pg)×(List UInt8)×Unit=>HV p.1 p.2.1)
attribute[local go_sem] GM GL pgR in
theorem A6g:A2U:=by
 rintro ⟨p,s,_u⟩ w fz xs hc hfz hl hx
 refine Bg Tryz.func33 rfl w fz [] [] cD (λp:(Pg)×(List UInt8)×Unit=>HV p.1 p.2.1) _ xs hfz hl hx (jN rfl) ?_
 clear hx hl hfz xs
 simp only[Tryz.f33]
 obtain⟨⟨pc,pa⟩,pf⟩:=p
 have hc:pf.length<=1000000:=hc
 simp only[seval,go_sem]
 refine AC (Y:=Nat) (λi=>i<=pf.length/\fnG s (pf.drop i)=fnG s pf)
  (λi=>⟨[(1,true,.one (.v (.string (bs s)))),(2,true,.one (.p 2 0 0)),(4,true,.one (.p 4 0 0)),(6,true,.one (.v (.int .i64 (i:Int))))],[(2,Gb pc pa pf),(4,.vec 0 Rx [Hj])]⟩)
  (λi=>pf.length-i) 0 ⟨Nat.zero_le _,rfl⟩ ?_ ?_
 .refine A2 [] ?_;simp only[seval,go_sem,Hj,Rx]
 rintro i ⟨hi,hJ⟩
 refine AP [] [] _ _ _ ?_
 have w1:IntKind.i64.wrap ((i:Int)+1)=((i+1:Nat):Int):=by rw[wrap_i64 (by omega) (by omega)];rfl
 cases hx:pf[i]? with
 |none=>
  have h2:=List.getElem?_eq_none_iff.1 hx
  have h1:=Ai h2
  rw[List.drop_eq_nil_of_le h2]at hJ
  have hr:fnSV (fnG s pf)= .tup [.inr [.v (.string (bs [])),.v (.slice none 0 0),.v (.slice none 0 0),.v (.slice none 0 0)],.inl (.v (.bool false))]:=by rw[<- hJ];rfl
  simp only[seval,go_sem,Hj,Rx,h1]
  repeat refine AX ?_
  refine A1 [] ?_;simp only[seval,go_sem,bne,HV,hr]
 |some x=>
 have hlt:=(List.getElem?_eq_some_iff.1 hx).1
 have h1:=Ah hlt
 have h2:=A2S hx
 rw[BF hx]at hJ
 simp only[fnG]at hJ
 cases hq:(x.name==s) with
 |true=>
  rw[if_pos hq]at hJ
  have hr:fnSV (fnG s pf)= .tup [.inr x.c,.inl (.v (.bool true))]:=by rw[<- hJ];rfl
  simp only[seval,go_sem,Hj,Rx,h1,h2,hq]
  repeat refine AX ?_
  refine A1 [] ?_;simp only[seval,go_sem,bne,HV,hr,Fn.c]
 |false=>
 rw[if_neg (by rw[hq];decide)]at hJ
 simp only[seval,go_sem,Hj,Rx,h1,h2,hq,w1]
 repeat refine AX ?_
 refine⟨i+1,⟨hlt,hJ⟩,by omega,?_⟩
 refine A2 [] ?_;simp only[seval,go_sem,Hj,Rx]
noncomputable def H9{X:Ctx}{w0:World}:Sy.Spec Tryz.prog X w0:=Dq 33 Tryz.call33 cD _ _ (id (by intro p;exact xd _)) A6g
abbrev VD(f:Fn)(va:List Va):Prop:=f.ps.length<=5000/\va.length<=1000000
abbrev FX(f:Fn)(va:List Va):SV:=.one (.v (.bool (Dw f.ps va)))
noncomputable abbrev VE:ArgC ((Fn)×(List Va)×Unit):=(acS (cFn) (acS (Mr) ac0))
abbrev qF:Prop:=Ca Tryz.prog 34 VE (λp:(Fn)×(List Va)×Unit=>VD p.1 p.2.1) (λp:(Fn)×(List Va)×Unit=>FX p.1 p.2.1)
attribute[local go_sem] Fn.c A9 A8 in
theorem xe:qF:=by
 rintro ⟨f,va,_u⟩ w fz xs hc hfz hl hx
 refine Bg Tryz.func34 rfl w fz [] [] VE (λp:(Fn)×(List Va)×Unit=>FX p.1 p.2.1) _ xs hfz hl hx (jN rfl) ?_
 clear hx hl hfz xs
 simp only[Tryz.f34]
 obtain⟨hc1,hc2⟩:=hc
 dsimp only at hc1 hc2
 obtain⟨fn,fp,fl,fb⟩:=f
 dsimp only at hc1
 cases hl:((va.length:Int)==(fp.length:Int)) with
 |false=>
  have hr:Dw fp va=false:=by
   have hne:va.length≠fp.length:=λh=>by rw[h]at hl;simp at hl
   cases hf:Dw fp va with
   |false=>rfl
   |true=>exact absurd (OA hf).symm hne
  have hl2:((va.length:Int) != (fp.length:Int))=true:=by unfold bne;rw[hl];rfl
  simp only[seval,go_sem,Ad,Ae,hl,hl2]
  repeat refine AX ?_
  refine A1 [] ?_;simp only[seval,go_sem,bne,FX,hr]
 |true=>
 have hle:va.length=fp.length:=by have:=eq_of_beq hl;omega
 have hl2:((va.length:Int) != (fp.length:Int))=false:=by unfold bne;rw[hl];rfl
 simp only[seval,go_sem,Ad,Ae,hl,hl2]
 refine AC (Y:=Nat) (λi=>i<=va.length/\Dw (fp.drop i) (va.drop i)=Dw fp va)
  (λi=>⟨[(1,true,.one (.d (.sl IQ (va.map Va.r)))),(2,true,.one (.p 2 0 0)),(5,true,.one (.v (.int .i64 (i:Int))))],[(2,.vec 0 fl4 [[.v (.string (bs fn)),.d (.sl zVr (fp.map Vr.r)),.d (.sl zVr (fl.map Vr.r)),.d (.sl zSm (fb.map Sm.r))]])]⟩)
  (λi=>va.length-i) 0 ⟨Nat.zero_le _,rfl⟩ ?_ ?_
 .refine A2 [] ?_;simp only[seval,go_sem,fl4]
 rintro i ⟨hi,hJ⟩
 refine AP [] [] _ _ _ ?_
 have w1:IntKind.i64.wrap ((i:Int)+1)=((i+1:Nat):Int):=by rw[wrap_i64 (by omega) (by omega)];rfl
 cases hx:va[i]? with
 |none=>
  have h2:=List.getElem?_eq_none_iff.1 hx
  have h1:=Ai h2
  rw[List.drop_eq_nil_of_le h2,List.drop_eq_nil_of_le (by omega)]at hJ
  have hr:Dw fp va=true:=hJ.symm
  simp only[seval,go_sem,h1,fl4]
  repeat refine AX ?_
  refine A1 [] ?_;simp only[seval,go_sem,bne,FX,hr]
 |some x=>
 have hlt:=(List.getElem?_eq_some_iff.1 hx).1
 have hlp:i<fp.length:=by omega
 obtain⟨y,hy⟩:∃y,fp[i]?=some y:=⟨_,List.getElem?_eq_getElem hlp⟩
 have h1:=Ah hlt
 have h2:=Ug hx
 have h3:=XL hy
 rw[BF hx,BF hy]at hJ
 simp only[Dw]at hJ
 have hb:(y.p==x.p)=(x.p==y.p):=by cases x.p<;>cases y.p<;>rfl
 rw[hb]at hJ
 cases hq:(x.p==y.p) with
 |true=>
  have hq2:(x.p != y.p)=false:=by unfold bne;rw[hq];rfl
  rw[hq,Bool.true_and]at hJ
  simp only[seval,go_sem,h1,h2,h3,hq,hq2,w1,fl4]
  repeat refine AX ?_
  refine⟨i+1,⟨hlt,hJ⟩,by omega,?_⟩
  refine A2 [] ?_;simp only[seval,go_sem,fl4]
 |false=>
 have hq2:(x.p != y.p)=true:=by unfold bne;rw[hq];rfl
 rw[hq,Bool.false_and]at hJ
 simp only[seval,go_sem,h1,h2,h3,hq,hq2,fl4]
 repeat refine AX ?_
 refine A1 [] ?_;simp only[seval,go_sem,bne,FX,<- hJ]
noncomputable def FA{X:Ctx}{w0:World}:Sy.Spec Tryz.prog X w0:=Dq 34 Tryz.call34 VE _ _ KF2 xe
end Go.Proofs.YtapedeoheilnnaaGreat
