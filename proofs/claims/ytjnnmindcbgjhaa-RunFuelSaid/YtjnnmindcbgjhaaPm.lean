/- The parser, in plain words. No conditions but those in each statement. -/
import Derived.Test.YtjnnmindcbgjhaaMi1
set_option linter.unusedVariables false
set_option linter.unusedSimpArgs false
namespace Go.Proofs.Ytjnnmindcbgjhaa
open Go Go.Sy Go.RowKit
def adv (p:Pr):Pr:={ p with i:=w64i (p.i+1) }
def B9 (t:List UInt8) (p:Pr):Pr:=if isT t p=true then adv p else p
def B1 (t:List UInt8) (p:Pr):Pr:=if isT t p=true then adv p else CI 51 p
def Cz (p:Pr):List UInt8:=if nameB p=true then (tk p).t else []
def BW (p:Pr):Pr:=if nameB p=true then adv p else CI 51 p
def Et (p:Pr):Bool:=p.e==0&&!decide (40≤p.deep)
def Bl (p:Pr):Pr:=if (p.e==0)=true then (if decide (40≤p.deep)=true then CI 52 p else { p with deep:=w64i (p.deep+1) }) else p
def shut (p:Pr):Pr:={ p with deep:=w64i (p.deep-1) }
def outB (p:Pr):Bool:=p.e != 0||decide ((p.l.length:Int)≤p.i)
abbrev R (A:Type):=A×Pr
def J1 (u:Pr→R Ex):Nat→Ex→Pr→R Ex
 |0,a,p=>(a,p)
 |k+1,a,p=>
  if (p.e==0)=true then
   (
    if isT [42] p=true then J1 u k (.mk 4 0 [] a (u (adv p)).1) (u (adv p)).2
    else if isT [47] p=true then J1 u k (.mk 5 0 [] a (u (adv p)).1) (u (adv p)).2
    else if isT [37] p=true then J1 u k (.mk 6 0 [] a (u (adv p)).1) (u (adv p)).2
    else (a,p))
  else (a,p)
def FQ (u:Pr→R Ex) (p:Pr):R Ex:=J1 u p.l.length (u p).1 (u p).2
def N4 (u:Pr→R Ex):Nat→Ex→Pr→R Ex
 |0,a,p=>(a,p)
 |k+1,a,p=>
  if (p.e==0)=true then
   (
    if isT [45] p=true then N4 u k (.mk 3 0 [] a (FQ u (adv p)).1) (FQ u (adv p)).2
    else if isT [43] p=true then N4 u k (.mk 2 0 [] a (FQ u (adv p)).1) (FQ u (adv p)).2
    else (a,p))
  else (a,p)
def KI (u:Pr→R Ex) (p:Pr):R Ex:=N4 u p.l.length (FQ u p).1 (FQ u p).2
def unF:Nat→Pr→R Ex
 |0,p=>(.nil,p)
 |f+1,p=>
  if outB p=true then (.nil,CI 51 p)
  else if isT [45] p=true then
   (if Et p=true then (.mk 7 0 [] (unF f (adv (Bl p))).1 .nil,shut (unF f (adv (Bl p))).2) else (.nil,Bl p))
  else if isT [40] p=true then
   (if Et p=true then ((KI (unF f) (adv (Bl p))).1,shut (B1 [41] (KI (unF f) (adv (Bl p))).2)) else (.nil,Bl p))
  else if ((tk p).k==1)=true then (.mk 0 (numW (tk p).t 0) [] .nil .nil,adv p)
  else if nameB p=true then (.mk 1 0 (Cz p) .nil .nil,BW p)
  else (.nil,CI 51 p)
def okP (p:Pr):Prop:=0≤p.i∧p.i≤(p.l.length:Int)∧p.l.length≤4096∧0≤p.deep∧p.deep≤40∧∀x∈p.l,x.t.length≤4096
structure Nx (p q:Pr):Prop where
 ok:okP q
 l:q.l=p.l
 en:q.en=p.en
 i:p.i≤q.i
 d:q.deep=p.deep
 e:p.e≠0→q.e=p.e∧q.at'=p.at'
theorem Nx.refl {p:Pr} (h:okP p):Nx p p:=⟨h,rfl,rfl,Int.le_refl _,rfl,fun _=>⟨rfl,rfl⟩⟩
theorem Nx.trans {p q r:Pr} (h1:Nx p q) (h2:Nx q r):Nx p r:=
 ⟨h2.ok,h2.l.trans h1.l,h2.en.trans h1.en,Int.le_trans h1.i h2.i,h2.d.trans h1.d,fun h=>by
  obtain⟨e1,e2⟩:=h1.e h
  obtain⟨e3,e4⟩:=h2.e (by rw[e1];exact h)
  exact⟨e3.trans e1,e4.trans e2⟩⟩
theorem okP.i {p:Pr} (h:okP p):okI p:=⟨h.1,h.2.1,h.2.2.1⟩
theorem B8 {t:List UInt8} {p:Pr} (h:isT t p=true):p.e=0∧p.i<(p.l.length:Int):=by
 unfold isT at h
 simp only[Bool.and_eq_true,beq_iff_eq,decide_eq_true_eq]at h
 exact⟨h.1.1.1,h.1.1.2⟩
theorem J2 {p:Pr} (h:nameB p=true):p.e=0∧p.i<(p.l.length:Int):=by
 unfold nameB at h
 simp only[Bool.and_eq_true,beq_iff_eq,decide_eq_true_eq]at h
 exact⟨h.1.1.1,h.1.1.2⟩
theorem IA {p:Pr} (h:okP p) (hi:p.i<(p.l.length:Int)):(adv p).i=p.i+1:=by
 obtain⟨h1,h2,h3,_⟩:=h
 show w64i (p.i+1)=_
 unfold w64i
 rw[wrap_i64 (by omega) (by omega)]
theorem Di {p:Pr} (h:okP p) (hi:p.i<(p.l.length:Int)) (he:p.e=0):Nx p (adv p):=by
 have e:=IA h hi
 obtain⟨h1,h2,h3,h4,h5,h6⟩:=h
 exact⟨⟨by rw[e];omega,by rw[e];show p.i+1≤(p.l.length:Int);omega,h3,h4,h5,h6⟩,rfl,rfl,by rw[e];omega,rfl,fun h=>absurd he h⟩
theorem nH (c:Int) (p:Pr):(CI c p).l=p.l∧(CI c p).i=p.i∧(CI c p).en=p.en∧(CI c p).deep=p.deep∧(CI c p).n=p.n:=by
 unfold CI;split<;>exact⟨rfl,rfl,rfl,rfl,rfl⟩
theorem F1 {p:Pr} (c:Int) (h:okP p):Nx p (CI c p):=by
 obtain⟨e1,e2,e3,e4,e5⟩:=nH c p
 refine⟨?_,e1,e3,by rw[e2];exact Int.le_refl _,e4,fun he=>?_⟩
 ·unfold okP;rw[e1,e2,e4];exact h
 ·unfold CI;rw[if_neg (by simpa using he)];exact⟨rfl,rfl⟩
theorem cw {t:List UInt8} {p:Pr} (h:okP p):Nx p (B9 t p):=by
 unfold B9;split
 ·rename_i hi;exact Di h (B8 hi).2 (B8 hi).1
 ·exact .refl h
theorem BB {t:List UInt8} {p:Pr} (h:okP p):Nx p (B1 t p):=by
 unfold B1;split
 ·rename_i hi;exact Di h (B8 hi).2 (B8 hi).1
 ·exact F1 51 h
theorem FK {p:Pr} (h:okP p):Nx p (BW p):=by
 unfold BW;split
 ·rename_i hi;exact Di h (J2 hi).2 (J2 hi).1
 ·exact F1 51 h
theorem Lq {p:Pr} (h:okP p) (hb:Et p=false):Nx p (Bl p):=by
 unfold Et at hb
 unfold Bl
 split
 ·rename_i he
  rw[he]at hb
  simp only[Bool.true_and,Bool.not_eq_false']at hb
  rw[if_pos hb]
  exact F1 52 h
 ·exact .refl h
theorem Pn {p:Pr} (h:okP p) (hb:Et p=true):p.e=0∧p.deep<40∧Bl p={ p with deep:=p.deep+1 }:=by
 unfold Et at hb
 simp only[Bool.and_eq_true,beq_iff_eq,Bool.not_eq_true',decide_eq_false_iff_not]at hb
 obtain⟨h1,h2,h3,h4,h5,h6⟩:=h
 refine⟨hb.1,by omega,?_⟩
 unfold Bl
 rw[if_pos (by simpa using hb.1),if_neg (by simpa using hb.2)]
 unfold w64i
 rw[wrap_i64 (by omega) (by omega)]
theorem uZ {p:Pr} (h:okP p) (hb:Et p=true):okP (Bl p):=by
 obtain⟨h1,h2,h3⟩:=Pn h hb
 rw[h3]
 obtain⟨h1,h2,h3,h4,h5,h6⟩:=h
 exact⟨h1,h2,h3,by show 0≤p.deep+1;omega,by show p.deep+1≤40;omega,h6⟩
theorem Oo {p q:Pr} (h:okP p) (hb:Et p=true) (hq:Nx (Bl p) q):Nx p (shut q):=by
 obtain⟨h1,h2,h3⟩:=Pn h hb
 obtain⟨⟨o1,o2,o3,o4,o5,o6⟩,e1,e2,e3,e4,e6⟩:=hq
 rw[h3]at e1 e2 e3 e4 e6
 simp only at e1 e2 e3 e4 e6
 have hd:(shut q).deep=p.deep:=by
  show w64i (q.deep-1)=_
  rw[e4];unfold w64i
  rw[wrap_i64 (by omega) (by omega)];omega
 obtain⟨k1,k2,k3,k4,k5,k6⟩:=h
 exact⟨⟨o1,o2,o3,by rw[hd];exact k4,by rw[hd];exact k5,o6⟩,e1,e2,e3,hd,fun he=>absurd h1 he⟩
theorem Po {u:Pr→R Ex} (hu:∀p,okP p→Nx p (u p).2):∀(k:Nat) (a:Ex) (p:Pr),okP p→Nx p (J1 u k a p).2
 |0,a,p,h=>.refl h
 |k+1,a,p,h=>by
  simp only[J1]
  (repeat' split)
  ·rename_i he hi
   have h1:=Di h (B8 hi).2 (B8 hi).1
   have h2:=hu _ h1.ok
   exact(h1.trans h2).trans (Po hu k _ _ h2.ok)
  ·rename_i he _ hi
   have h1:=Di h (B8 hi).2 (B8 hi).1
   have h2:=hu _ h1.ok
   exact(h1.trans h2).trans (Po hu k _ _ h2.ok)
  ·rename_i he _ _ hi
   have h1:=Di h (B8 hi).2 (B8 hi).1
   have h2:=hu _ h1.ok
   exact(h1.trans h2).trans (Po hu k _ _ h2.ok)
  ·exact .refl h
  ·exact .refl h
theorem Jg {u:Pr→R Ex} (hu:∀p,okP p→Nx p (u p).2) (p:Pr) (h:okP p):Nx p (FQ u p).2:=(hu p h).trans (Po hu _ _ _ (hu p h).ok)
theorem Ud {u:Pr→R Ex} (hu:∀p,okP p→Nx p (u p).2):∀(k:Nat) (a:Ex) (p:Pr),okP p→Nx p (N4 u k a p).2
 |0,a,p,h=>.refl h
 |k+1,a,p,h=>by
  simp only[N4]
  (repeat' split)
  ·rename_i he hi
   have h1:=Di h (B8 hi).2 (B8 hi).1
   have h2:=Jg hu _ h1.ok
   exact(h1.trans h2).trans (Ud hu k _ _ h2.ok)
  ·rename_i he _ hi
   have h1:=Di h (B8 hi).2 (B8 hi).1
   have h2:=Jg hu _ h1.ok
   exact(h1.trans h2).trans (Ud hu k _ _ h2.ok)
  ·exact .refl h
  ·exact .refl h
theorem Ue {u:Pr→R Ex} (hu:∀p,okP p→Nx p (u p).2) (p:Pr) (h:okP p):Nx p (KI u p).2:=(Jg hu p h).trans (Ud hu _ _ _ (Jg hu p h).ok)
theorem A0y {p:Pr} (h:okP p) (hb:Et p=true):(Bl p).i=p.i∧(Bl p).l=p.l∧(Bl p).e=p.e:=by
 rw[(Pn h hb).2.2];exact⟨rfl,rfl,rfl⟩
theorem Fb {p:Pr} (h:okP p) (hb:Et p=true) (hi:p.i<(p.l.length:Int)):Nx (Bl p) (adv (Bl p)):=by
 obtain⟨e1,e2,e3⟩:=A0y h hb
 exact Di (uZ h hb) (by rw[e1,e2];exact hi) (by rw[e3];exact(Pn h hb).1)
theorem KJ:∀(f:Nat) (p:Pr),okP p→Nx p (unF f p).2
 |0,p,h=>.refl h
 |f+1,p,h=>by
  simp only[unF]
  split
  ·exact F1 51 h
  ·split
   ·rename_i hi
    split
    ·rename_i hb
     have h1:=Fb h hb (B8 hi).2
     exact Oo h hb (h1.trans (KJ f _ h1.ok))
    ·rename_i hb;exact Lq h (by simpa using hb)
   ·split
    ·rename_i hi
     split
     ·rename_i hb
      have h1:=Fb h hb (B8 hi).2
      have h2:=h1.trans (Ue (KJ f) _ h1.ok)
      exact Oo h hb (h2.trans (BB h2.ok))
     ·rename_i hb;exact Lq h (by simpa using hb)
    ·split
     ·rename_i ho _ _ _
      unfold outB at ho
      simp only[Bool.or_eq_true,bne_iff_ne,ne_eq,decide_eq_true_eq,not_or,Decidable.not_not]at ho
      exact Di h (by omega) ho.1
     ·split
      ·exact FK h
      ·exact F1 51 h
abbrev dpU (f:Nat) (p:Pr):Prop:=41≤p.deep+(f:Int)
theorem Z9 {p:Pr} (h:okP p) (hi:p.i<(p.l.length:Int)):w64i (w64i (p.i+1)-1)=p.i:=by
 obtain⟨h1,h2,h3,_⟩:=h
 unfold w64i
 rw[wrap_i64 (n:=p.i+1) (by omega) (by omega),wrap_i64 (by omega) (by omega)];omega
theorem cx {p:Pr} (h:okP p):(nameB p=false∧nameB p=false∧nameB p=false∧nameB p=false)∨(nameB p=true∧IntKind.i64.wrap (IntKind.i64.wrap (p.i+1)-1)=p.i∧(0≤p.i)=True∧(p.i<(p.l.length:Int))=True):=by
 cases hb:nameB p with
 |false=>exact .inl ⟨rfl,rfl,rfl,rfl⟩
 |true=>exact .inr ⟨rfl,Z9 h (J2 hb).2,by simp[h.1],by simp[(J2 hb).2]⟩
theorem ua {p:Pr} (h:okP p) (hi:p.i<(p.l.length:Int)):Ct (tk p).t:=by
 obtain⟨h1,h2,h3,h4,h5,h8⟩:=h
 have hm:tk p∈p.l:=by
  unfold tk
  have:p.i.toNat<p.l.length:=by omega
  rw[List.getD,List.getElem?_eq_getElem this];exact List.getElem_mem this
 have:=h8 _ hm
 show _≤4294967296
 omega
abbrev exS:Pr→R Ex:=KI (unF 41)
theorem L3 {p:Pr} (h:okP p):dpU 41 p:=by
 have:=h.2.2.2.1
 show 41≤p.deep+((41:Nat):Int)
 simp;omega
theorem TV {t:List UInt8} {p:Pr} (h:okP p) (h0:(B1 t p).e=0):(B1 t p).i=p.i+1:=by
 unfold B1 at h0 ⊢
 cases ic:isT t p with
 |true=>rw[ic]at h0;rw[if_pos rfl];exact IA h (B8 ic).2
 |false=>
  rw[ic,if_neg (by decide)]at h0
  unfold CI at h0
  split at h0
  ·exact absurd h0 (show ¬((51:Int)=0) by decide)
  ·rename_i hne;exact absurd (by simpa using h0) hne
theorem cz {t:List UInt8} {p:Pr} (h:isT t p=true):B9 t p=adv p:=by unfold B9;rw[if_pos h]
theorem dA {t:List UInt8} {p:Pr} (h:isT t p=false):B9 t p=p:=by unfold B9;rw[if_neg (by rw[h];decide)]
end Go.Proofs.Ytjnnmindcbgjhaa
namespace Go.Proofs.Ytjnnmindcbgjhaa
open Go Go.Sy Go.RowKit
theorem AR (l:List Tok) (i en e at' deep n:Int):rPr.d [.sl [D.v (Value.int IntKind.i64 0),D.v (Value.string (bs [])),D.v (Value.int IntKind.i64 0)] (l.map Tok.r),.v (.int .i64 i),.v (.int .i64 en),.v (.int .i64 e),.v (.int .i64 at'),.v (.int .i64 deep),.v (.int .i64 n)]=some ⟨l,i,en,e,at',deep,n⟩:=Af l i en e at' deep n
theorem AS (l:List Tok) (i en e at' deep n:Int):mPr.d [.d (.sl [D.v (Value.int IntKind.i64 0),D.v (Value.string (bs [])),D.v (Value.int IntKind.i64 0)] (l.map Tok.r)),.v (.int .i64 i),.v (.int .i64 en),.v (.int .i64 e),.v (.int .i64 at'),.v (.int .i64 deep),.v (.int .i64 n)]=some ⟨l,i,en,e,at',deep,n⟩:=Ai l i en e at' deep n
abbrev Oq (p:Pr) (t:List UInt8):Prop:=okP p
abbrev Ot (p:Pr) (t:List UInt8):SV:=.one (.v (.bool (isT t p)))
abbrev L4 (p:Pr) (t:List UInt8):List (Option MV):=[some (zPr,[(B9 t p).c])]
noncomputable abbrev L5:ArgM ((Pr)×(List UInt8)×Unit):=(amP (mPr) (amD (cStr) am0))
abbrev nI:Prop:=Bs Try.prog 54 ((L5).args 0) (L5).mem (fun p:(Pr)×(List UInt8)×Unit=>Oq p.1 p.2.1) (fun p:(Pr)×(List UInt8)×Unit=>Ot p.1 p.2.1) (fun p:(Pr)×(List UInt8)×Unit=>L4 p.1 p.2.1)
theorem nJ:∀p,(fun p:(Pr)×(List UInt8)×Unit=>Oq p.1 p.2.1) p→Cm ((L5).mem p).length ((fun p:(Pr)×(List UInt8)×Unit=>L4 p.1 p.2.1) p)=true:=by intro p _;rfl
theorem nK:∀p,(fun p:(Pr)×(List UInt8)×Unit=>Oq p.1 p.2.1) p→As ((fun p:(Pr)×(List UInt8)×Unit=>L4 p.1 p.2.1) p).length ((fun p:(Pr)×(List UInt8)×Unit=>Ot p.1 p.2.1) p)=true:=by intro p _;first|rfl|exact AO _ _|exact AP _ _|(simp[As,Bz,AO,AP];done)
theorem nL:∀p,(fun p:(Pr)×(List UInt8)×Unit=>Oq p.1 p.2.1) p→∀q,some q∈(fun p:(Pr)×(List UInt8)×Unit=>L4 p.1 p.2.1) p→∀r∈q.2,∀c∈r,c.names=[]:=by intro p _;exact Fg _
attribute [local go_sem] Pr.c Tok.r Ad Ai AS Ah Ag AQ ptR Af AR Ac zTk
theorem ub:nI:=by
 rintro ⟨p,t,_u⟩ w M I lab fz xs hc hA hl hx
 refine Am Try.func54 rfl ((L5).mem ⟨p,t,_u⟩) w M I lab fz [AU] [] ((L5).args 0 ⟨p,t,_u⟩) ((fun p:(Pr)×(List UInt8)×Unit=>L4 p.1 p.2.1) ⟨p,t,_u⟩) ((fun p:(Pr)×(List UInt8)×Unit=>Ot p.1 p.2.1) ⟨p,t,_u⟩) xs hA hl hx (fun v hv k hk=>by have:=(L5).an 0 ⟨p,t,_u⟩ v hv k hk;omega) (jN rfl) (jN rfl) ?_
 clear hx hl hA xs
 simp only[Try.f54]
 simp only[↓eB,seval,go_sem,AU,Aw]
 try simp only[A2,A3]
 repeat' first|exact ck|with_reducible apply And.intro|intro _
 all_goals try simp only[bne,Bool.not_eq_true',Bool.not_eq_false',Bool.not_not] at*
 all_goals first
  |(exact hc.i;done)
  |(refine A0 [] ?_;simp only[↓eB,seval,go_sem,bne,Ot,L4,B9,adv];first|done|(simp only[*,if_true,if_false,jB,Bool.true_or,Bool.or_true,Bool.false_or,Bool.or_false,Bool.and_false,Bool.false_and,Bool.true_and,Bool.and_true,Bool.not_true,Bool.not_false,Bool.or_self,Bool.and_self,Int.reduceEq,Int.reduceNeg,Nat.reduceEqDiff,reduceCtorEq,Lj,Lk,Fl,Gq,and_self,↓reduceIte];done)|(simp_all [B9,adv];done))
  |omega
  |(simp only[decide_eq_true_eq,decide_eq_false_iff_not]at *;omega)
  |(simp_all [B9,adv];done)
  |(simp_all [B9,adv];omega)
  |trace_state
noncomputable def A7 {X:Ctx} {w0:World}:Sy.Spec Try.prog X w0:=CY 54 Try.call54 (L5) (fun p:(Pr)×(List UInt8)×Unit=>Oq p.1 p.2.1) (fun p:(Pr)×(List UInt8)×Unit=>Ot p.1 p.2.1) (fun p:(Pr)×(List UInt8)×Unit=>L4 p.1 p.2.1) nJ nK nL ub
abbrev Ov (p:Pr) (t:List UInt8):Prop:=okP p
abbrev Ow (p:Pr) (t:List UInt8):SV:=.tup []
abbrev L6 (p:Pr) (t:List UInt8):List (Option MV):=[some (zPr,[(B1 t p).c])]
noncomputable abbrev L7:ArgM ((Pr)×(List UInt8)×Unit):=(amP (mPr) (amD (cStr) am0))
abbrev nM:Prop:=Bs Try.prog 55 ((L7).args 0) (L7).mem (fun p:(Pr)×(List UInt8)×Unit=>Ov p.1 p.2.1) (fun p:(Pr)×(List UInt8)×Unit=>Ow p.1 p.2.1) (fun p:(Pr)×(List UInt8)×Unit=>L6 p.1 p.2.1)
theorem nN:∀p,(fun p:(Pr)×(List UInt8)×Unit=>Ov p.1 p.2.1) p→Cm ((L7).mem p).length ((fun p:(Pr)×(List UInt8)×Unit=>L6 p.1 p.2.1) p)=true:=by intro p _;rfl
theorem nO:∀p,(fun p:(Pr)×(List UInt8)×Unit=>Ov p.1 p.2.1) p→As ((fun p:(Pr)×(List UInt8)×Unit=>L6 p.1 p.2.1) p).length ((fun p:(Pr)×(List UInt8)×Unit=>Ow p.1 p.2.1) p)=true:=by intro p _;first|rfl|exact AO _ _|exact AP _ _|(simp[As,Bz,AO,AP];done)
theorem nP:∀p,(fun p:(Pr)×(List UInt8)×Unit=>Ov p.1 p.2.1) p→∀q,some q∈(fun p:(Pr)×(List UInt8)×Unit=>L6 p.1 p.2.1) p→∀r∈q.2,∀c∈r,c.names=[]:=by intro p _;exact Fg _
theorem uc:nM:=by
 rintro ⟨p,t,_u⟩ w M I lab fz xs hc hA hl hx
 refine Am Try.func55 rfl ((L7).mem ⟨p,t,_u⟩) w M I lab fz [A7,AC] [] ((L7).args 0 ⟨p,t,_u⟩) ((fun p:(Pr)×(List UInt8)×Unit=>L6 p.1 p.2.1) ⟨p,t,_u⟩) ((fun p:(Pr)×(List UInt8)×Unit=>Ow p.1 p.2.1) ⟨p,t,_u⟩) xs hA hl hx (fun v hv k hk=>by have:=(L7).an 0 ⟨p,t,_u⟩ v hv k hk;omega) (jN rfl) (jN rfl) ?_
 clear hx hl hA xs
 simp only[Try.f55]
 simp only[↓eB,seval,go_sem,A7,AC]
 try simp only[A2,A3]
 repeat' first|exact ck|with_reducible apply And.intro|intro _
 all_goals try simp only[bne,Bool.not_eq_true',Bool.not_eq_false',Bool.not_not] at*
 all_goals first
  |(exact hc;done)
  |((have h:=okP.i hc;simp_all [B9]);done)
  |(refine A0 [] ?_;simp only[↓eB,seval,go_sem,bne,Ow,L6,B1,B9];first|done|(simp only[*,if_true,if_false,jB,Bool.true_or,Bool.or_true,Bool.false_or,Bool.or_false,Bool.and_false,Bool.false_and,Bool.true_and,Bool.and_true,Bool.not_true,Bool.not_false,Bool.or_self,Bool.and_self,Int.reduceEq,Int.reduceNeg,Nat.reduceEqDiff,reduceCtorEq,Lj,Lk,Fl,Gq,and_self,↓reduceIte];done)|(simp_all [B1,B9];done))
  |omega
  |(simp only[decide_eq_true_eq,decide_eq_false_iff_not]at *;omega)
  |(simp_all [B1,B9];done)
  |(simp_all [B1,B9];omega)
  |trace_state
noncomputable def AG {X:Ctx} {w0:World}:Sy.Spec Try.prog X w0:=CY 55 Try.call55 (L7) (fun p:(Pr)×(List UInt8)×Unit=>Ov p.1 p.2.1) (fun p:(Pr)×(List UInt8)×Unit=>Ow p.1 p.2.1) (fun p:(Pr)×(List UInt8)×Unit=>L6 p.1 p.2.1) nN nO nP uc
abbrev Ox (p:Pr):Prop:=okP p
abbrev Oy (p:Pr):SV:=.one (.v (.string (bs (Cz p))))
abbrev L8 (p:Pr):List (Option MV):=[some (zPr,[(BW p).c])]
noncomputable abbrev L9:ArgM ((Pr)×Unit):=(amP (mPr) am0)
abbrev nQ:Prop:=Bs Try.prog 58 ((L9).args 0) (L9).mem (fun p:(Pr)×Unit=>Ox p.1) (fun p:(Pr)×Unit=>Oy p.1) (fun p:(Pr)×Unit=>L8 p.1)
theorem nR:∀p,(fun p:(Pr)×Unit=>Ox p.1) p→Cm ((L9).mem p).length ((fun p:(Pr)×Unit=>L8 p.1) p)=true:=by intro p _;rfl
theorem nS:∀p,(fun p:(Pr)×Unit=>Ox p.1) p→As ((fun p:(Pr)×Unit=>L8 p.1) p).length ((fun p:(Pr)×Unit=>Oy p.1) p)=true:=by intro p _;first|rfl|exact AO _ _|exact AP _ _|(simp[As,Bz,AO,AP];done)
theorem nT:∀p,(fun p:(Pr)×Unit=>Ox p.1) p→∀q,some q∈(fun p:(Pr)×Unit=>L8 p.1) p→∀r∈q.2,∀c∈r,c.names=[]:=by intro p _;exact Fg _
theorem ud:nQ:=by
 rintro ⟨p,_u⟩ w M I lab fz xs hc hA hl hx
 refine Am Try.func58 rfl ((L9).mem ⟨p,_u⟩) w M I lab fz [A8,AC] [] ((L9).args 0 ⟨p,_u⟩) ((fun p:(Pr)×Unit=>L8 p.1) ⟨p,_u⟩) ((fun p:(Pr)×Unit=>Oy p.1) ⟨p,_u⟩) xs hA hl hx (fun v hv k hk=>by have:=(L9).an 0 ⟨p,_u⟩ v hv k hk;omega) (jN rfl) (jN rfl) ?_
 clear hx hl hA xs
 simp only[Try.f58]
 rcases cx hc with⟨hb,e1,e2,e3⟩|⟨hb,e1,e2,e3⟩
 all_goals simp only[↓eB,seval,go_sem,A8,AC,AN,hb,e1,e2,e3]
 all_goals
  try simp only[A2,A3]
  repeat' first|exact ck|with_reducible apply And.intro|intro _
  all_goals try simp only[bne,Bool.not_eq_true',Bool.not_eq_false',Bool.not_not] at*
  all_goals first
   |(exact hc.i;done)
   |(refine A0 [] ?_;simp only[↓eB,seval,go_sem,bne,Oy,L8,Cz,BW,adv,hb,tk];first|done|(simp only[*,if_true,if_false,jB,Bool.true_or,Bool.or_true,Bool.false_or,Bool.or_false,Bool.and_false,Bool.false_and,Bool.true_and,Bool.and_true,Bool.not_true,Bool.not_false,Bool.or_self,Bool.and_self,Int.reduceEq,Int.reduceNeg,Nat.reduceEqDiff,reduceCtorEq,Lj,Lk,Fl,Gq,and_self,↓reduceIte];done)|(simp_all [Cz,BW,adv];done))
   |omega
   |(simp only[decide_eq_true_eq,decide_eq_false_iff_not]at *;omega)
   |(simp_all [Cz,BW,adv];done)
   |(simp_all [Cz,BW,adv];omega)
   |trace_state
noncomputable def AH {X:Ctx} {w0:World}:Sy.Spec Try.prog X w0:=CY 58 Try.call58 (L9) (fun p:(Pr)×Unit=>Ox p.1) (fun p:(Pr)×Unit=>Oy p.1) (fun p:(Pr)×Unit=>L8 p.1) nR nS nT ud
abbrev Oz (p:Pr):Prop:=okP p
abbrev P0 (p:Pr):SV:=.one (.v (.bool (Et p)))
abbrev LA (p:Pr):List (Option MV):=[some (zPr,[(Bl p).c])]
noncomputable abbrev LB:ArgM ((Pr)×Unit):=(amP (mPr) am0)
abbrev nV:Prop:=Bs Try.prog 62 ((LB).args 0) (LB).mem (fun p:(Pr)×Unit=>Oz p.1) (fun p:(Pr)×Unit=>P0 p.1) (fun p:(Pr)×Unit=>LA p.1)
theorem nW:∀p,(fun p:(Pr)×Unit=>Oz p.1) p→Cm ((LB).mem p).length ((fun p:(Pr)×Unit=>LA p.1) p)=true:=by intro p _;rfl
theorem nX:∀p,(fun p:(Pr)×Unit=>Oz p.1) p→As ((fun p:(Pr)×Unit=>LA p.1) p).length ((fun p:(Pr)×Unit=>P0 p.1) p)=true:=by intro p _;first|rfl|exact AO _ _|exact AP _ _|(simp[As,Bz,AO,AP];done)
theorem nY:∀p,(fun p:(Pr)×Unit=>Oz p.1) p→∀q,some q∈(fun p:(Pr)×Unit=>LA p.1) p→∀r∈q.2,∀c∈r,c.names=[]:=by intro p _;exact Fg _
theorem ue:nV:=by
 rintro ⟨p,_u⟩ w M I lab fz xs hc hA hl hx
 refine Am Try.func62 rfl ((LB).mem ⟨p,_u⟩) w M I lab fz [AC] [] ((LB).args 0 ⟨p,_u⟩) ((fun p:(Pr)×Unit=>LA p.1) ⟨p,_u⟩) ((fun p:(Pr)×Unit=>P0 p.1) ⟨p,_u⟩) xs hA hl hx (fun v hv k hk=>by have:=(LB).an 0 ⟨p,_u⟩ v hv k hk;omega) (jN rfl) (jN rfl) ?_
 clear hx hl hA xs
 simp only[Try.f62]
 simp only[↓eB,seval,go_sem,AC]
 try simp only[A2,A3]
 repeat' first|exact ck|with_reducible apply And.intro|intro _
 all_goals try simp only[bne,Bool.not_eq_true',Bool.not_eq_false',Bool.not_not] at*
 all_goals first
  |(exact hc.i;done)
  |(refine A0 [] ?_;simp only[↓eB,seval,go_sem,bne,P0,LA,Et,Bl];first|done|(simp only[*,if_true,if_false,jB,Bool.true_or,Bool.or_true,Bool.false_or,Bool.or_false,Bool.and_false,Bool.false_and,Bool.true_and,Bool.and_true,Bool.not_true,Bool.not_false,Bool.or_self,Bool.and_self,Int.reduceEq,Int.reduceNeg,Nat.reduceEqDiff,reduceCtorEq,Lj,Lk,Fl,Gq,and_self,↓reduceIte];done)|(simp_all [Et,Bl];done))
  |omega
  |(simp only[decide_eq_true_eq,decide_eq_false_iff_not]at *;omega)
  |(simp_all [Et,Bl];done)
  |(simp_all [Et,Bl];omega)
  |trace_state
noncomputable def AM {X:Ctx} {w0:World}:Sy.Spec Try.prog X w0:=CY 62 Try.call62 (LB) (fun p:(Pr)×Unit=>Oz p.1) (fun p:(Pr)×Unit=>P0 p.1) (fun p:(Pr)×Unit=>LA p.1) nW nX nY ue
end Go.Proofs.Ytjnnmindcbgjhaa
