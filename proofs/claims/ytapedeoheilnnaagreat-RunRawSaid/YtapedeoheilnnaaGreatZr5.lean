/- The document's frame: places, functions by name, walked. Conditions: how many cells and arrays there are. -/
import Derived.Test.YtapedeoheilnnaaGreatZr4
import Derived.Test.YtapedeoheilnnaaGreatOu
set_option linter.all false
set_option maxRecDepth 20000
set_option maxHeartbeats 16000000
open Option (isSome_some isSome_none)
namespace Go.Proofs.YtapedeoheilnnaaGreat
open Go Go.Sy Go.RowKit
variable{P:Prop}{X:Ctx}{w0:World}
theorem A28(h:P:=by (repeat' first|exact ck|with_reducible apply And.intro|intro _);all_goals first|exact trivial|exact KZ|(refine A1 [] ?_;simp only[seval,go_sem,bne,BI,BH,BA,BD,A5,↓A0,h])):P:=h
theorem gg(h:P:=by (repeat' first|exact ck|with_reducible apply And.intro|intro _);all_goals first|exact hc1|exact KZ|(refine A1 [] ?_;simp only[seval,go_sem,bne,C3,C2,Bp,Bx,A5,↓A0,h])):P:=h
theorem pW(h:P:=by (repeat' first|exact ck|with_reducible apply And.intro|intro _);all_goals first|exact hc1|exact h20|exact hax.2|exact KZ|(refine A1 [] ?_;simp only[seval,go_sem,bne,C0,Bz,Bo,Bq,A5,↓A0,h])):P:=h
theorem A29(h:P:=by (repeat' first|exact ck|with_reducible apply And.intro|intro _);all_goals first|exact trivial|exact KZ|(refine A1 [] ?_;simp only[seval,go_sem,bne,FO,hr])):P:=h
abbrev wr(q:Rz)(al:Int)(s:List UInt8)(v:Int):Prop:=q.m.cs.length<=1000000
abbrev BH(q:Rz)(al:Int)(s:List UInt8)(v:Int):Bool:=false
abbrev BA(q:Rz)(al:Int)(s:List UInt8)(v:Int):Rz:=seZ q al s v
abbrev BD(q:Rz)(al:Int)(s:List UInt8)(v:Int):Rz:=seZ q al s v
abbrev BI(q:Rz)(al:Int)(s:List UInt8)(v:Int):SV:=.tup []
theorem ws:∀b,∀v∈ArgC.e (acS (cInt .i64) (acS (cStr) (acS (cInt .i64) ac0))) b,v.tupB=false:=by rintro ⟨x0,x1,x2,_⟩ v hv;simp only[FM,FL,List.mem_cons,List.not_mem_nil,or_false]at hv;rcases hv with rfl|rfl|rfl<;>first|rfl|exact FD _|exact FE _
noncomputable abbrev Ts:ArgL (Rz×(Int)×(List UInt8)×(Int)×Unit):=amRz (acS (cInt .i64) (acS (cStr) (acS (cInt .i64) ac0))) ws
abbrev Tt:Prop:=DY Tryz.prog 91 (Ts).args (Ts).mem (λp:(Rz×(Int)×(List UInt8)×(Int)×Unit)=>wr p.1 p.2.1 p.2.2.1 p.2.2.2.1) (λp:(Rz×(Int)×(List UInt8)×(Int)×Unit)=>BH p.1 p.2.1 p.2.2.1 p.2.2.2.1) (λp:(Rz×(Int)×(List UInt8)×(Int)×Unit)=>BI p.1 p.2.1 p.2.2.1 p.2.2.2.1) (λp:(Rz×(Int)×(List UInt8)×(Int)×Unit)=>Rz.memO (BA p.1 p.2.1 p.2.2.1 p.2.2.2.1)) (λp:(Rz×(Int)×(List UInt8)×(Int)×Unit)=>mlO (Rz.pan (BD p.1 p.2.1 p.2.2.1 p.2.2.2.1)))
noncomputable def Xy{X:Ctx}{w0:World}(h:Tt):Sy.Spec Tryz.prog X w0:=DL 91 Tryz.call91 (Ts) _ _ _ _ _ (id (by exact λp _ _=>have h:=GM p.1 (BA p.1 p.2.1 p.2.2.1 p.2.2.2.1);⟨h.1,h.2.1,rfl,h.2.2⟩)) (id (by exact λp _ _=>MZ p.1 (BD p.1 p.2.1 p.2.2.1 p.2.2.2.1))) (id (by exact λp _ _=>⟨(GM p.1 (BA p.1 p.2.1 p.2.2.1 p.2.2.2.1)).1,rfl⟩)) KF3 h
theorem Be(h:Tt):(Xy (X:=X) (w0:=w0) h).f=91:=rfl
def Bf{X:Ctx}{w0:World}(h:Tt)(t:Nat)(args:List SV)(H:Hp):=@id ((Xy (X:=X) (w0:=w0) h).fn t args H=spL X _ t H _ _ _ _ _) rfl
attribute[local go_sem] Fn.c ML.ch ML.ren Rz.mem Rz.memO Rz.pan Sm.ar Sm.c Sm.cd Sm.e Sm.el Sm.f Sm.k Sm.no Sm.th Sm.x Sm.y OY OX OZ Dd CS CR CA CP CQ AF AE DV DU DO DN chL fcN Ab Re fzR Rg Ri Od lmH lmO LU N3 N4 DJ Cg Ci EG BK BM BN BL nmX AB AA Dq De Cx Cy EK EJ Rh Rj Oe E1 EH rnC rzC Rf P3 rzW Oc Fl AN Cf DP Cr CO EE vrQ xt Ja BG Ad P4 Aw AR JZ BF Rc OW Kh Kg in
theorem A2A:Tt:=by
 rintro ⟨q,al,s,v,_u⟩ w M I lab fz xs hc hA hl hx
 refine Bn Tryz.func91 rfl (Rz.mem q) w M I lab fz (BH q al s v) (Rz.pan (BD q al s v)) (Rz.memO (BA q al s v)) [AR,Aw] [] ((Ts).args ⟨q,al,s,v,_u⟩) (BI q al s v) xs hA hl hx (Kw _ _ _ _) (jN rfl) (Nat.le_refl _) rfl (Ma _) ?_
 clear hx hl hA xs
 simp only[Tryz.f91]
 have hc1:q.m.cs.length<=1000000:=hc
 cases ho:q.m.on with
 |false=>
  have ho1:(q.m.e==0)=false:=ho
  have hn1:(q.m.e != 0)=true:=Ob ho
  have h:seZ q al s v=q:=by unfold seZ;rw[if_pos ho]
  simp only[seval,go_sem,↓A0,isSome_some,isSome_none,h,ho1,hn1]
  try simp only[A2,A3]
  try exact A28
 |true=>
 have ho1:(q.m.e==0)=true:=ho
 have hn1:(q.m.e != 0)=false:=Oa ho
 have hoF:¬q.m.on=false:=by rw[ho];decide
 cases h1:AD q.is s with
 |some u=>
  have h:seZ q al s v={ q with is:=B1 q.is s v }:=by unfold seZ;rw[if_neg hoF,h1]
  simp only[seval,go_sem,↓A0,isSome_some,isSome_none,h,h1,ho1,hn1]
  try simp only[A2,A3]
  try exact A28
 |none=>
 have hcx:=q.m.cx_rg s
 cases h2:decide (0<=q.m.cx s) with
 |true=>
  have h3:=of_decide_eq_true h2
  have h:seZ q al s v={ q with m:=q.m.set (q.m.cx s) v }:=by unfold seZ;rw[if_neg hoF,h1];exact if_pos h3
  have hg:=MK (l:=q.m.cs) (i:=q.m.cx s) ⟨h3,hcx.2⟩
  simp only[seval,go_sem,↓A0,isSome_some,isSome_none,h,h1,h2,ho1,hn1,hg,Ms.set,VQ]
  try simp only[A2,A3]
  repeat' first|exact ck|with_reducible apply And.intro|intro _
  all_goals first|exact hc1|exact h3|exact hcx.2|exact KZ|(refine A1 [] ?_;simp only[seval,go_sem,bne,BI,BH,BA,BD,A5,↓A0,h,Ms.set])
 |false=>
 have h3:=of_decide_eq_false h2
 have h:seZ q al s v={ q with m:=q.m.zfail q.f.name al 4 }:=by unfold seZ;rw[if_neg hoF,h1];exact if_neg h3
 simp only[seval,go_sem,↓A0,isSome_some,isSome_none,h,h1,h2,ho1,hn1]
 try simp only[A2,A3]
 repeat' first|exact ck|with_reducible apply And.intro|intro _
 all_goals first|exact hc1|exact KZ|(refine A1 [] ?_;simp only[seval,go_sem,bne,BI,BH,BA,BD,A5,↓A0,h])
noncomputable def BO{X:Ctx}{w0:World}:Sy.Spec Tryz.prog X w0:=Xy A2A
abbrev wt(q:Rz)(al:Int)(s:List UInt8):Prop:=q.m.cs.length<=1000000
abbrev C2(q:Rz)(al:Int)(s:List UInt8):Bool:=false
abbrev Bp(q:Rz)(al:Int)(s:List UInt8):Rz:={ q with m:=(thZ q al s).2 }
abbrev Bx(q:Rz)(al:Int)(s:List UInt8):Rz:={ q with m:=(thZ q al s).2 }
abbrev C3(q:Rz)(al:Int)(s:List UInt8):SV:=.one (.v (.int .i64 (thZ q al s).1))
theorem wu:∀b,∀v∈ArgC.e (acS (cInt .i64) (acS (cStr) ac0)) b,v.tupB=false:=by rintro ⟨x0,x1,_⟩ v hv;simp only[FM,FL,List.mem_cons,List.not_mem_nil,or_false]at hv;rcases hv with rfl|rfl<;>first|rfl|exact FD _|exact FE _
noncomputable abbrev Tu:ArgL (Rz×(Int)×(List UInt8)×Unit):=amRz (acS (cInt .i64) (acS (cStr) ac0)) wu
abbrev Tv:Prop:=DY Tryz.prog 93 (Tu).args (Tu).mem (λp:(Rz×(Int)×(List UInt8)×Unit)=>wt p.1 p.2.1 p.2.2.1) (λp:(Rz×(Int)×(List UInt8)×Unit)=>C2 p.1 p.2.1 p.2.2.1) (λp:(Rz×(Int)×(List UInt8)×Unit)=>C3 p.1 p.2.1 p.2.2.1) (λp:(Rz×(Int)×(List UInt8)×Unit)=>Rz.memO (Bp p.1 p.2.1 p.2.2.1)) (λp:(Rz×(Int)×(List UInt8)×Unit)=>mlO (Rz.pan (Bx p.1 p.2.1 p.2.2.1)))
noncomputable def Xz{X:Ctx}{w0:World}(h:Tv):Sy.Spec Tryz.prog X w0:=DL 93 Tryz.call93 (Tu) _ _ _ _ _ (id (by exact λp _ _=>have h:=GM p.1 (Bp p.1 p.2.1 p.2.2.1);⟨h.1,h.2.1,rfl,h.2.2⟩)) (id (by exact λp _ _=>MZ p.1 (Bx p.1 p.2.1 p.2.2.1))) (id (by exact λp _ _=>⟨(GM p.1 (Bp p.1 p.2.1 p.2.2.1)).1,rfl⟩)) KF3 h
theorem Ca(h:Tv):(Xz (X:=X) (w0:=w0) h).f=93:=rfl
def Cb{X:Ctx}{w0:World}(h:Tv)(t:Nat)(args:List SV)(H:Hp):=@id ((Xz (X:=X) (w0:=w0) h).fn t args H=spL X _ t H _ _ _ _ _) rfl
attribute[local go_sem] Fn.c ML.ch ML.ren Rz.mem Rz.memO Rz.pan Sm.ar Sm.c Sm.cd Sm.e Sm.el Sm.f Sm.k Sm.no Sm.th Sm.x Sm.y OY OX OZ Dd CS CR CA CP CQ AF AE DV DU DO DN chL fcN Ab Re fzR Rg Ri Od lmH lmO LU N3 N4 DJ Cg Ci EG BK BM BN BL nmX AB AA Dq De Cx Cy EK EJ Rh Rj Oe E1 EH rnC rzC Rf P3 rzW Oc Fl AN Cf DP Cr CO EE vrQ xt Ja BG Ad P4 Aw AR JZ BF Rc OW Kh Kg in
theorem A2B:Tv:=by
 rintro ⟨q,al,s,_u⟩ w M I lab fz xs hc hA hl hx
 refine Bn Tryz.func93 rfl (Rz.mem q) w M I lab fz (C2 q al s) (Rz.pan (Bx q al s)) (Rz.memO (Bp q al s)) [AR,Aw] [] ((Tu).args ⟨q,al,s,_u⟩) (C3 q al s) xs hA hl hx (Kw _ _ _ _) (jN rfl) (Nat.le_refl _) rfl (Ma _) ?_
 clear hx hl hA xs
 simp only[Tryz.f93]
 have hc1:q.m.cs.length<=1000000:=hc
 cases ho:q.m.on with
 |false=>
  have ho1:(q.m.e==0)=false:=ho
  have hn1:(q.m.e != 0)=true:=Ob ho
  have h:thZ q al s=(-1,q.m):=by unfold thZ;rw[if_pos ho]
  simp only[seval,go_sem,↓A0,isSome_some,isSome_none,h,ho1,hn1]
  try simp only[A2,A3]
  repeat' first|exact ck|with_reducible apply And.intro|intro _
  all_goals first|exact trivial|exact KZ|(refine A1 [] ?_;simp only[seval,go_sem,bne,C3,C2,Bp,Bx,A5,↓A0,h])
 |true=>
 have ho1:(q.m.e==0)=true:=ho
 have hn1:(q.m.e != 0)=false:=Oa ho
 have hoF:¬q.m.on=false:=by rw[ho];decide
 cases h1:AD q.ps s with
 |none=>
  have h2:pgZ q.ps s=[]:=by unfold pgZ;rw[h1];rfl
  have h:thZ q al s=(-1,q.m.zfail q.f.name al 2):=by unfold thZ;rw[if_neg hoF,h2];rfl
  simp only[seval,go_sem,↓A0,isSome_some,isSome_none,h,h1,ho1,hn1,VS]
  try simp only[A2,A3]
  try exact gg
 |some t=>
 have h2:pgZ q.ps s=t:=by unfold pgZ;rw[h1];rfl
 have hcx:=q.m.cx_rg t
 cases h3:(t==[]) with
 |true=>
  have h:thZ q al s=(-1,q.m.zfail q.f.name al 2):=by unfold thZ;rw[if_neg hoF,h2,if_pos h3]
  simp only[seval,go_sem,↓A0,isSome_some,isSome_none,h,h1,ho1,hn1,h3]
  try simp only[A2,A3]
  try exact gg
 |false=>
 cases h4:decide (q.m.cx t<0) with
 |true=>
  have h:thZ q al s=(-1,q.m.zfail q.f.name al 2):=by unfold thZ;rw[if_neg hoF,h2,if_neg (by rw[h3];decide),if_pos (of_decide_eq_true h4)]
  simp only[seval,go_sem,↓A0,isSome_some,isSome_none,h,h1,ho1,hn1,h3,h4]
  try simp only[A2,A3]
  try exact gg
 |false=>
 have h:thZ q al s=(q.m.cx t,q.m):=by unfold thZ;rw[if_neg hoF,h2,if_neg (by rw[h3];decide),if_neg (of_decide_eq_false h4)]
 simp only[seval,go_sem,↓A0,isSome_some,isSome_none,h,h1,ho1,hn1,h3,h4]
 try simp only[A2,A3]
 try exact gg
noncomputable def CM{X:Ctx}{w0:World}:Sy.Spec Tryz.prog X w0:=Xz A2B
abbrev wv(q:Rz)(al:Int)(s:List UInt8)(i:Int):Prop:=q.m.ar.length<=1000000/\∀a∈q.m.ar,a.l.length<=1000000000
abbrev Bz(q:Rz)(al:Int)(s:List UInt8)(i:Int):Bool:=false
abbrev Bo(q:Rz)(al:Int)(s:List UInt8)(i:Int):Rz:={ q with m:=(idZ q al s i).2 }
abbrev Bq(q:Rz)(al:Int)(s:List UInt8)(i:Int):Rz:={ q with m:=(idZ q al s i).2 }
abbrev C0(q:Rz)(al:Int)(s:List UInt8)(i:Int):SV:=.tup [.inl (.v (.int .i64 (idZ q al s i).1.1)),.inl (.v (.int .i64 (idZ q al s i).1.2))]
theorem ww:∀b,∀v∈ArgC.e (acS (cInt .i64) (acS (cStr) (acS (cInt .i64) ac0))) b,v.tupB=false:=by rintro ⟨x0,x1,x2,_⟩ v hv;simp only[FM,FL,List.mem_cons,List.not_mem_nil,or_false]at hv;rcases hv with rfl|rfl|rfl<;>first|rfl|exact FD _|exact FE _
noncomputable abbrev Tw:ArgL (Rz×(Int)×(List UInt8)×(Int)×Unit):=amRz (acS (cInt .i64) (acS (cStr) (acS (cInt .i64) ac0))) ww
abbrev Tx:Prop:=DY Tryz.prog 94 (Tw).args (Tw).mem (λp:(Rz×(Int)×(List UInt8)×(Int)×Unit)=>wv p.1 p.2.1 p.2.2.1 p.2.2.2.1) (λp:(Rz×(Int)×(List UInt8)×(Int)×Unit)=>Bz p.1 p.2.1 p.2.2.1 p.2.2.2.1) (λp:(Rz×(Int)×(List UInt8)×(Int)×Unit)=>C0 p.1 p.2.1 p.2.2.1 p.2.2.2.1) (λp:(Rz×(Int)×(List UInt8)×(Int)×Unit)=>Rz.memO (Bo p.1 p.2.1 p.2.2.1 p.2.2.2.1)) (λp:(Rz×(Int)×(List UInt8)×(Int)×Unit)=>mlO (Rz.pan (Bq p.1 p.2.1 p.2.2.1 p.2.2.2.1)))
noncomputable def Y0{X:Ctx}{w0:World}(h:Tx):Sy.Spec Tryz.prog X w0:=DL 94 Tryz.call94 (Tw) _ _ _ _ _ (id (by exact λp _ _=>have h:=GM p.1 (Bo p.1 p.2.1 p.2.2.1 p.2.2.2.1);⟨h.1,h.2.1,rfl,h.2.2⟩)) (id (by exact λp _ _=>MZ p.1 (Bq p.1 p.2.1 p.2.2.1 p.2.2.2.1))) (id (by exact λp _ _=>⟨(GM p.1 (Bo p.1 p.2.1 p.2.2.1 p.2.2.2.1)).1,rfl⟩)) KF3 h
theorem Cc(h:Tx):(Y0 (X:=X) (w0:=w0) h).f=94:=rfl
def Ce{X:Ctx}{w0:World}(h:Tx)(t:Nat)(args:List SV)(H:Hp):=@id ((Y0 (X:=X) (w0:=w0) h).fn t args H=spL X _ t H _ _ _ _ _) rfl
attribute[local go_sem] Fn.c ML.ch ML.ren Rz.mem Rz.memO Rz.pan Sm.ar Sm.c Sm.cd Sm.e Sm.el Sm.f Sm.k Sm.no Sm.th Sm.x Sm.y OY OX OZ Dd CS CR CA CP CQ AF AE DV DU DO DN chL fcN Ab Re fzR Rg Ri Od lmH lmO LU N3 N4 DJ Cg Ci EG BK BM BN BL nmX AB AA Dq De Cx Cy EK EJ Rh Rj Oe E1 EH rnC rzC Rf P3 rzW Oc Fl AN Cf DP Cr CO EE vrQ xt Ja BG Ad P4 Aw AR JZ BF Rc OW Kh Kg in
theorem A2C:Tx:=by
 rintro ⟨q,al,s,i,_u⟩ w M I lab fz xs hc hA hl hx
 refine Bn Tryz.func94 rfl (Rz.mem q) w M I lab fz (Bz q al s i) (Rz.pan (Bq q al s i)) (Rz.memO (Bo q al s i)) [AR,P4] [] ((Tw).args ⟨q,al,s,i,_u⟩) (C0 q al s i) xs hA hl hx (Kw _ _ _ _) (jN rfl) (Nat.le_refl _) rfl (Ma _) ?_
 clear hx hl hA xs
 simp only[Tryz.f94]
 obtain⟨hc1,hc2⟩:=hc
 dsimp only at hc1 hc2
 cases ho:q.m.on with
 |false=>
  have ho1:(q.m.e==0)=false:=ho
  have hn1:(q.m.e != 0)=true:=Ob ho
  have h:idZ q al s i=((-1,-1),q.m):=by unfold idZ;rw[if_pos ho]
  simp only[seval,go_sem,↓A0,isSome_some,isSome_none,h,ho1,hn1]
  try simp only[A2,A3]
  repeat' first|exact ck|with_reducible apply And.intro|intro _
  all_goals first|exact trivial|exact KZ|(refine A1 [] ?_;simp only[seval,go_sem,bne,C0,Bz,Bo,Bq,A5,↓A0,h])
 |true=>
 have ho1:(q.m.e==0)=true:=ho
 have hn1:(q.m.e != 0)=false:=Oa ho
 have hoF:¬q.m.on=false:=by rw[ho];decide
 have hax:=q.m.ax_rg s
 cases h1:decide (q.m.ax s<0) with
 |true=>
  have h:idZ q al s i=((-1,-1),q.m.zfail q.f.name al 4):=by unfold idZ;rw[if_neg hoF,if_pos (of_decide_eq_true h1)]
  simp only[seval,go_sem,↓A0,isSome_some,isSome_none,h,h1,ho1,hn1]
  try simp only[A2,A3]
  repeat' first|exact ck|with_reducible apply And.intro|intro _
  all_goals first|exact hc1|exact KZ|(refine A1 [] ?_;simp only[seval,go_sem,bne,C0,Bz,Bo,Bq,A5,↓A0,h])
 |false=>
 have h2:=of_decide_eq_false h1
 have h20:0<=q.m.ax s:=by omega
 have hg:=Pl (l:=q.m.ar) (i:=q.m.ax s) ⟨h20,hax.2⟩
 have ha:(q.m.ar.getD (q.m.ax s).toNat ⟨[],[]⟩).l.length<=1000000000:=hc2 _ (by
  have:(q.m.ax s).toNat<q.m.ar.length:=by omega
  rw[List.getD,List.getElem?_eq_getElem this];exact List.getElem_mem this)
 cases n1:decide (i<0) with
 |true=>
  have h:idZ q al s i=((-1,-1),q.m.zfail q.f.name al 1):=by unfold idZ;rw[if_neg hoF,if_neg h2,if_pos (.inl (of_decide_eq_true n1))]
  simp only[seval,go_sem,↓A0,isSome_some,isSome_none,h,h1,hg,n1,ho1,hn1]
  try simp only[A2,A3]
  try exact pW
 |false=>
 cases n2:decide (((q.m.ar.getD (q.m.ax s).toNat ⟨[],[]⟩).l.length:Int)<=i) with
 |true=>
  have h:idZ q al s i=((-1,-1),q.m.zfail q.f.name al 1):=by unfold idZ;rw[if_neg hoF,if_neg h2,if_pos (.inr (of_decide_eq_true n2))]
  simp only[seval,go_sem,↓A0,isSome_some,isSome_none,h,h1,hg,n1,n2,ho1,hn1]
  try simp only[A2,A3]
  try exact pW
 |false=>
 have m1:=of_decide_eq_false n1
 have m2:=of_decide_eq_false n2
 have h:idZ q al s i=((q.m.ax s,i),q.m):=by unfold idZ;rw[if_neg hoF,if_neg h2,if_neg (λhh=>by rcases hh with hh|hh;exact m1 hh;exact m2 hh)]
 simp only[seval,go_sem,↓A0,isSome_some,isSome_none,h,h1,hg,n1,n2,ho1,hn1]
 try simp only[A2,A3]
 try exact pW
noncomputable def CN{X:Ctx}{w0:World}:Sy.Spec Tryz.prog X w0:=Y0 A2C
abbrev Rm:List C:=tgN 77 4
def Hf:List C:=[.v (.string (bs [])),.v (.slice none 0 0),.v (.slice none 0 0),.v (.slice none 0 0)]
def fnSV:Option Fn->SV
 |some g=>.tup [.inr g.c,.inl (.v (.bool true))]
 |none=>.tup [.inr Hf,.inl (.v (.bool false))]
theorem wx:∀o,(fnSV o).names=[]:=by intro o;cases o<;>rfl
theorem A2D{l:List Fn}{i:Nat}{x:Fn}(h:l[i]?=some x)(z:List D):(l.map Fn.r).getD i z=[.v (.string (bs x.name)),.sl zVr (x.ps.map Vr.r),.sl zVr (x.ls.map Vr.r),.sl zSm (x.body.map Sm.r)]:=by simp[List.getD,h,Fn.r]
abbrev A2E(p:Pg)(s:List UInt8):Prop:=p.fs.length<=1000000
abbrev HQ(p:Pg)(s:List UInt8):SV:=fnSV (fnG s p.fs)
noncomputable abbrev bY:ArgC ((Pg)×(List UInt8)×Unit):=(acS (cPg) (acS (cStr) ac0))
abbrev A2F:Prop:=Cu Tryz.prog 33 bY (λp:(Pg)×(List UInt8)×Unit=>A2E p.1 p.2.1) (λp:(Pg)×(List UInt8)×Unit=>HQ p.1 p.2.1)
attribute[local go_sem] HG HF pgR in
theorem A6P:A2F:=by
 rintro ⟨p,s,_u⟩ w fz xs hc hfz hl hx
 refine Bu Tryz.func33 rfl w fz [] [] bY (λp:(Pg)×(List UInt8)×Unit=>HQ p.1 p.2.1) _ xs hfz hl hx (jN rfl) ?_
 clear hx hl hfz xs
 simp only[Tryz.f33]
 obtain⟨⟨pc,pa⟩,pf⟩:=p
 have hc:pf.length<=1000000:=hc
 simp only[seval,go_sem]
 refine AK (Y:=Nat) (λi=>i<=pf.length/\fnG s (pf.drop i)=fnG s pf)
  (λi=>⟨[(1,true,.one (.v (.string (bs s)))),(2,true,.one (.p 2 0 0)),(4,true,.one (.p 4 0 0)),(6,true,.one (.v (.int .i64 (i:Int))))],[(2,PD pc pa pf),(4,.vec 0 Rm [Hf])]⟩)
  (λi=>pf.length-i) 0 ⟨Nat.zero_le _,rfl⟩ ?_ ?_
 .refine A4 [] ?_;simp only[seval,go_sem,Hf,Rm]
 rintro i ⟨hi,hJ⟩
 refine AZ [] [] _ _ _ ?_
 have w1:IntKind.i64.wrap ((i:Int)+1)=((i+1:Nat):Int):=by rw[wrap_i64 (by omega) (by omega)];rfl
 cases hx:pf[i]? with
 |none=>
  have h2:=List.getElem?_eq_none_iff.1 hx
  have h1:=B9 h2
  rw[List.drop_eq_nil_of_le h2]at hJ
  have hr:fnSV (fnG s pf)= .tup [.inr [.v (.string (bs [])),.v (.slice none 0 0),.v (.slice none 0 0),.v (.slice none 0 0)],.inl (.v (.bool false))]:=by rw[<- hJ];rfl
  simp only[seval,go_sem,Hf,Rm,h1]
  try simp only[A2,A3]
  repeat' first|exact ck|with_reducible apply And.intro|intro _
  all_goals first|exact trivial|exact KZ|(refine A1 [] ?_;simp only[seval,go_sem,bne,HQ,hr])
 |some x=>
 have hlt:=(List.getElem?_eq_some_iff.1 hx).1
 have h1:=B8 hlt
 have h2:=A2D hx
 rw[BJ hx]at hJ
 simp only[fnG]at hJ
 cases hq:(x.name==s) with
 |true=>
  rw[if_pos hq]at hJ
  have hr:fnSV (fnG s pf)= .tup [.inr x.c,.inl (.v (.bool true))]:=by rw[<- hJ];rfl
  simp only[seval,go_sem,Hf,Rm,h1,h2,hq]
  try simp only[A2,A3]
  repeat' first|exact ck|with_reducible apply And.intro|intro _
  all_goals first|exact hlt|exact KZ|(refine A1 [] ?_;simp only[seval,go_sem,bne,HQ,hr,Fn.c])
 |false=>
 rw[if_neg (by rw[hq];decide)]at hJ
 simp only[seval,go_sem,Hf,Rm,h1,h2,hq,w1]
 try simp only[A2,A3]
 repeat' first|exact ck|with_reducible apply And.intro|intro _
 all_goals try first|exact hlt|exact KZ
 refine⟨i+1,⟨hlt,hJ⟩,by omega,?_⟩
 refine A4 [] ?_;simp only[seval,go_sem,Hf,Rm]
noncomputable def Gp{X:Ctx}{w0:World}:Sy.Spec Tryz.prog X w0:=E2 33 Tryz.call33 bY _ _ (id (by intro p;exact wx _)) A6P
abbrev Uv(f:Fn)(va:List Va):Prop:=f.ps.length<=5000/\va.length<=1000000
abbrev FO(f:Fn)(va:List Va):SV:=.one (.v (.bool (Dn f.ps va)))
noncomputable abbrev Uw:ArgC ((Fn)×(List Va)×Unit):=(acS (cFn) (acS (LC) ac0))
abbrev pX:Prop:=Cu Tryz.prog 34 Uw (λp:(Fn)×(List Va)×Unit=>Uv p.1 p.2.1) (λp:(Fn)×(List Va)×Unit=>FO p.1 p.2.1)
attribute[local go_sem] Fn.c AF AE in
theorem wy:pX:=by
 rintro ⟨f,va,_u⟩ w fz xs hc hfz hl hx
 refine Bu Tryz.func34 rfl w fz [] [] Uw (λp:(Fn)×(List Va)×Unit=>FO p.1 p.2.1) _ xs hfz hl hx (jN rfl) ?_
 clear hx hl hfz xs
 simp only[Tryz.f34]
 obtain⟨hc1,hc2⟩:=hc
 dsimp only at hc1 hc2
 obtain⟨fn,fp,fl,fb⟩:=f
 dsimp only at hc1
 cases hl:((va.length:Int)==(fp.length:Int)) with
 |false=>
  have hr:Dn fp va=false:=by
   have hne:va.length≠fp.length:=λh=>by rw[h]at hl;simp at hl
   cases hf:Dn fp va with
   |false=>rfl
   |true=>exact absurd (Ny hf).symm hne
  have hl2:((va.length:Int) != (fp.length:Int))=true:=by unfold bne;rw[hl];rfl
  simp only[seval,go_sem,Af,Ag,hl,hl2]
  try simp only[A2,A3]
  try exact A29
 |true=>
 have hle:va.length=fp.length:=by have:=eq_of_beq hl;omega
 have hl2:((va.length:Int) != (fp.length:Int))=false:=by unfold bne;rw[hl];rfl
 simp only[seval,go_sem,Af,Ag,hl,hl2]
 refine AK (Y:=Nat) (λi=>i<=va.length/\Dn (fp.drop i) (va.drop i)=Dn fp va)
  (λi=>⟨[(1,true,.one (.d (.sl Gj (va.map Va.r)))),(2,true,.one (.p 2 0 0)),(5,true,.one (.v (.int .i64 (i:Int))))],[(2,.vec 0 fl4 [[.v (.string (bs fn)),.d (.sl zVr (fp.map Vr.r)),.d (.sl zVr (fl.map Vr.r)),.d (.sl zSm (fb.map Sm.r))]])]⟩)
  (λi=>va.length-i) 0 ⟨Nat.zero_le _,rfl⟩ ?_ ?_
 .refine A4 [] ?_;simp only[seval,go_sem,fl4]
 rintro i ⟨hi,hJ⟩
 refine AZ [] [] _ _ _ ?_
 have w1:IntKind.i64.wrap ((i:Int)+1)=((i+1:Nat):Int):=by rw[wrap_i64 (by omega) (by omega)];rfl
 cases hx:va[i]? with
 |none=>
  have h2:=List.getElem?_eq_none_iff.1 hx
  have h1:=B9 h2
  rw[List.drop_eq_nil_of_le h2,List.drop_eq_nil_of_le (by omega)]at hJ
  have hr:Dn fp va=true:=hJ.symm
  simp only[seval,go_sem,h1,fl4]
  try simp only[A2,A3]
  try exact A29
 |some x=>
 have hlt:=(List.getElem?_eq_some_iff.1 hx).1
 have hlp:i<fp.length:=by omega
 obtain⟨y,hy⟩:∃y,fp[i]?=some y:=⟨_,List.getElem?_eq_getElem hlp⟩
 have h1:=B8 hlt
 have h2:=UP hx
 have h3:=XC hy
 rw[BJ hx,BJ hy]at hJ
 simp only[Dn]at hJ
 have hb:(y.p==x.p)=(x.p==y.p):=by cases x.p<;>cases y.p<;>rfl
 rw[hb]at hJ
 cases hq:(x.p==y.p) with
 |true=>
  have hq2:(x.p != y.p)=false:=by unfold bne;rw[hq];rfl
  rw[hq,Bool.true_and]at hJ
  simp only[seval,go_sem,h1,h2,h3,hq,hq2,w1,fl4]
  try simp only[A2,A3]
  repeat' first|exact ck|with_reducible apply And.intro|intro _
  all_goals try first|exact hlt|exact hlp|exact KZ
  refine⟨i+1,⟨hlt,hJ⟩,by omega,?_⟩
  refine A4 [] ?_;simp only[seval,go_sem,fl4]
 |false=>
 have hq2:(x.p != y.p)=true:=by unfold bne;rw[hq];rfl
 rw[hq,Bool.false_and]at hJ
 simp only[seval,go_sem,h1,h2,h3,hq,hq2,fl4]
 try simp only[A2,A3]
 repeat' first|exact ck|with_reducible apply And.intro|intro _
 all_goals first|exact hlt|exact hlp|exact KZ|(refine A1 [] ?_;simp only[seval,go_sem,bne,FO,<- hJ])
noncomputable def F2{X:Ctx}{w0:World}:Sy.Spec Tryz.prog X w0:=E2 34 Tryz.call34 Uw _ _ KF4 wy
end Go.Proofs.YtapedeoheilnnaaGreat
