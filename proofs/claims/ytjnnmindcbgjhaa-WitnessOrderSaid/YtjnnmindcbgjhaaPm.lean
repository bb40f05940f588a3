/- The parser, in plain words. No conditions but those in each statement. -/
import Derived.Test.YtjnnmindcbgjhaaMi1
set_option linter.unusedVariables false
set_option linter.unusedSimpArgs false
namespace Go.Proofs.Ytjnnmindcbgjhaa
open Go Go.Sy Go.RowKit
def adv (p:Pr):Pr:={ p with i:=w64i (p.i+1) }
def Az (t:List UInt8) (p:Pr):Pr:=if isT t p=true then adv p else p
def AX (t:List UInt8) (p:Pr):Pr:=if isT t p=true then adv p else C7 51 p
def CY (p:Pr):List UInt8:=if nameB p=true then (tk p).t else []
def BE (p:Pr):Pr:=if nameB p=true then adv p else C7 51 p
def DH (p:Pr):Bool:=p.e==0&&!decide (40≤p.deep)
def Ai (p:Pr):Pr:=if (p.e==0)=true then (if decide (40≤p.deep)=true then C7 52 p else { p with deep:=w64i (p.deep+1) }) else p
def shut (p:Pr):Pr:={ p with deep:=w64i (p.deep-1) }
def outB (p:Pr):Bool:=p.e != 0||decide ((p.l.length:Int)≤p.i)
abbrev R (A:Type):=A×Pr
def Ej (u:Pr→R Ex):Nat→Ex→Pr→R Ex
 |0,a,p=>(a,p)
 |k+1,a,p=>
  if (p.e==0)=true then
   (
    if isT [42] p=true then Ej u k (.mk 4 0 [] a (u (adv p)).1) (u (adv p)).2
    else if isT [47] p=true then Ej u k (.mk 5 0 [] a (u (adv p)).1) (u (adv p)).2
    else if isT [37] p=true then Ej u k (.mk 6 0 [] a (u (adv p)).1) (u (adv p)).2
    else (a,p))
  else (a,p)
def Dd (u:Pr→R Ex) (p:Pr):R Ex:=Ej u p.l.length (u p).1 (u p).2
def HZ (u:Pr→R Ex):Nat→Ex→Pr→R Ex
 |0,a,p=>(a,p)
 |k+1,a,p=>
  if (p.e==0)=true then
   (
    if isT [45] p=true then HZ u k (.mk 3 0 [] a (Dd u (adv p)).1) (Dd u (adv p)).2
    else if isT [43] p=true then HZ u k (.mk 2 0 [] a (Dd u (adv p)).1) (Dd u (adv p)).2
    else (a,p))
  else (a,p)
def GJ (u:Pr→R Ex) (p:Pr):R Ex:=HZ u p.l.length (Dd u p).1 (Dd u p).2
def unF:Nat→Pr→R Ex
 |0,p=>(.nil,p)
 |f+1,p=>
  if outB p=true then (.nil,C7 51 p)
  else if isT [45] p=true then
   (if DH p=true then (.mk 7 0 [] (unF f (adv (Ai p))).1 .nil,shut (unF f (adv (Ai p))).2) else (.nil,Ai p))
  else if isT [40] p=true then
   (if DH p=true then ((GJ (unF f) (adv (Ai p))).1,shut (AX [41] (GJ (unF f) (adv (Ai p))).2)) else (.nil,Ai p))
  else if ((tk p).k==1)=true then (.mk 0 (numW (tk p).t 0) [] .nil .nil,adv p)
  else if nameB p=true then (.mk 1 0 (CY p) .nil .nil,BE p)
  else (.nil,C7 51 p)
def okP (p:Pr):Prop:=0≤p.i∧p.i≤(p.l.length:Int)∧p.l.length≤4096∧0≤p.deep∧p.deep≤40∧∀x∈p.l,x.t.length≤4096
structure Nx (p q:Pr):Prop where
 ok:okP q
 l:q.l=p.l
 en:q.en=p.en
 i:p.i≤q.i
 d:q.deep=p.deep
 e:p.e≠0→q.e=p.e∧q.at'=p.at'
theorem Nx.refl {p:Pr} (h:okP p):Nx p p:=⟨h,rfl,rfl,Int.le_refl _,rfl,fun _=>⟨rfl,rfl⟩⟩
theorem Nx.trans {p q r:Pr} (h1:Nx p q) (h2:Nx q r):Nx p r:=
 ⟨h2.ok,h2.l.trans h1.l,h2.en.trans h1.en,Int.le_trans h1.i h2.i,h2.d.trans h1.d,fun h=>by
  obtain⟨e1,e2⟩:=h1.e h
  obtain⟨e3,e4⟩:=h2.e (by rw[e1];exact h)
  exact⟨e3.trans e1,e4.trans e2⟩⟩
theorem okP.i {p:Pr} (h:okP p):okI p:=⟨h.1,h.2.1,h.2.2.1⟩
theorem BB {t:List UInt8} {p:Pr} (h:isT t p=true):p.e=0∧p.i<(p.l.length:Int):=by
 unfold isT at h
 simp only[Bool.and_eq_true,beq_iff_eq,decide_eq_true_eq]at h
 exact⟨h.1.1.1,h.1.1.2⟩
theorem IP {p:Pr} (h:nameB p=true):p.e=0∧p.i<(p.l.length:Int):=by
 unfold nameB at h
 simp only[Bool.and_eq_true,beq_iff_eq,decide_eq_true_eq]at h
 exact⟨h.1.1.1,h.1.1.2⟩
theorem Ek {p:Pr} (h:okP p) (hi:p.i<(p.l.length:Int)):(adv p).i=p.i+1:=by
 obtain⟨h1,h2,h3,_⟩:=h
 show w64i (p.i+1)=_
 unfold w64i
 rw[wrap_i64 (by omega) (by omega)]
theorem DI {p:Pr} (h:okP p) (hi:p.i<(p.l.length:Int)) (he:p.e=0):Nx p (adv p):=by
 have e:=Ek h hi
 obtain⟨h1,h2,h3,h4,h5,h6⟩:=h
 exact⟨⟨by rw[e];omega,by rw[e];show p.i+1≤(p.l.length:Int);omega,h3,h4,h5,h6⟩,rfl,rfl,by rw[e];omega,rfl,fun h=>absurd he h⟩
theorem Xu (c:Int) (p:Pr):(C7 c p).l=p.l∧(C7 c p).i=p.i∧(C7 c p).en=p.en∧(C7 c p).deep=p.deep∧(C7 c p).n=p.n:=by
 unfold C7;split<;>exact⟨rfl,rfl,rfl,rfl,rfl⟩
theorem Ff {p:Pr} (c:Int) (h:okP p):Nx p (C7 c p):=by
 obtain⟨e1,e2,e3,e4,e5⟩:=Xu c p
 refine⟨?_,e1,e3,by rw[e2];exact Int.le_refl _,e4,fun he=>?_⟩
 ·unfold okP;rw[e1,e2,e4];exact h
 ·unfold C7;rw[if_neg (by simpa using he)];exact⟨rfl,rfl⟩
theorem bN {t:List UInt8} {p:Pr} (h:okP p):Nx p (Az t p):=by
 unfold Az;split
 ·rename_i hi;exact DI h (BB hi).2 (BB hi).1
 ·exact .refl h
theorem BH {t:List UInt8} {p:Pr} (h:okP p):Nx p (AX t p):=by
 unfold AX;split
 ·rename_i hi;exact DI h (BB hi).2 (BB hi).1
 ·exact Ff 51 h
theorem Fj {p:Pr} (h:okP p):Nx p (BE p):=by
 unfold BE;split
 ·rename_i hi;exact DI h (IP hi).2 (IP hi).1
 ·exact Ff 51 h
theorem MT {p:Pr} (h:okP p) (hb:DH p=false):Nx p (Ai p):=by
 unfold DH at hb
 unfold Ai
 split
 ·rename_i he
  rw[he]at hb
  simp only[Bool.true_and,Bool.not_eq_false']at hb
  rw[if_pos hb]
  exact Ff 52 h
 ·exact .refl h
theorem ND {p:Pr} (h:okP p) (hb:DH p=true):p.e=0∧p.deep<40∧Ai p={ p with deep:=p.deep+1 }:=by
 unfold DH at hb
 simp only[Bool.and_eq_true,beq_iff_eq,Bool.not_eq_true',decide_eq_false_iff_not]at hb
 obtain⟨h1,h2,h3,h4,h5,h6⟩:=h
 refine⟨hb.1,by omega,?_⟩
 unfold Ai
 rw[if_pos (by simpa using hb.1),if_neg (by simpa using hb.2)]
 unfold w64i
 rw[wrap_i64 (by omega) (by omega)]
theorem bO {p:Pr} (h:okP p) (hb:DH p=true):okP (Ai p):=by
 obtain⟨h1,h2,h3⟩:=ND h hb
 rw[h3]
 obtain⟨h1,h2,h3,h4,h5,h6⟩:=h
 exact⟨h1,h2,h3,by show 0≤p.deep+1;omega,by show p.deep+1≤40;omega,h6⟩
theorem HF {p q:Pr} (h:okP p) (hb:DH p=true) (hq:Nx (Ai p) q):Nx p (shut q):=by
 obtain⟨h1,h2,h3⟩:=ND h hb
 obtain⟨⟨o1,o2,o3,o4,o5,o6⟩,e1,e2,e3,e4,e6⟩:=hq
 rw[h3]at e1 e2 e3 e4 e6
 simp only at e1 e2 e3 e4 e6
 have hd:(shut q).deep=p.deep:=by
  show w64i (q.deep-1)=_
  rw[e4];unfold w64i
  rw[wrap_i64 (by omega) (by omega)];omega
 obtain⟨k1,k2,k3,k4,k5,k6⟩:=h
 exact⟨⟨o1,o2,o3,by rw[hd];exact k4,by rw[hd];exact k5,o6⟩,e1,e2,e3,hd,fun he=>absurd h1 he⟩
theorem P0 {u:Pr→R Ex} (hu:∀p,okP p→Nx p (u p).2):∀(k:Nat) (a:Ex) (p:Pr),okP p→Nx p (Ej u k a p).2
 |0,a,p,h=>.refl h
 |k+1,a,p,h=>by
  simp only[Ej]
  (repeat' split)
  ·rename_i he hi
   have h1:=DI h (BB hi).2 (BB hi).1
   have h2:=hu _ h1.ok
   exact(h1.trans h2).trans (P0 hu k _ _ h2.ok)
  ·rename_i he _ hi
   have h1:=DI h (BB hi).2 (BB hi).1
   have h2:=hu _ h1.ok
   exact(h1.trans h2).trans (P0 hu k _ _ h2.ok)
  ·rename_i he _ _ hi
   have h1:=DI h (BB hi).2 (BB hi).1
   have h2:=hu _ h1.ok
   exact(h1.trans h2).trans (P0 hu k _ _ h2.ok)
  ·exact .refl h
  ·exact .refl h
theorem J9 {u:Pr→R Ex} (hu:∀p,okP p→Nx p (u p).2) (p:Pr) (h:okP p):Nx p (Dd u p).2:=(hu p h).trans (P0 hu _ _ _ (hu p h).ok)
theorem TT {u:Pr→R Ex} (hu:∀p,okP p→Nx p (u p).2):∀(k:Nat) (a:Ex) (p:Pr),okP p→Nx p (HZ u k a p).2
 |0,a,p,h=>.refl h
 |k+1,a,p,h=>by
  simp only[HZ]
  (repeat' split)
  ·rename_i he hi
   have h1:=DI h (BB hi).2 (BB hi).1
   have h2:=J9 hu _ h1.ok
   exact(h1.trans h2).trans (TT hu k _ _ h2.ok)
  ·rename_i he _ hi
   have h1:=DI h (BB hi).2 (BB hi).1
   have h2:=J9 hu _ h1.ok
   exact(h1.trans h2).trans (TT hu k _ _ h2.ok)
  ·exact .refl h
  ·exact .refl h
theorem QW {u:Pr→R Ex} (hu:∀p,okP p→Nx p (u p).2) (p:Pr) (h:okP p):Nx p (GJ u p).2:=(J9 hu p h).trans (TT hu _ _ _ (J9 hu p h).ok)
theorem ia {p:Pr} (h:okP p) (hb:DH p=true):(Ai p).i=p.i∧(Ai p).l=p.l∧(Ai p).e=p.e:=by
 rw[(ND h hb).2.2];exact⟨rfl,rfl,rfl⟩
theorem Fg {p:Pr} (h:okP p) (hb:DH p=true) (hi:p.i<(p.l.length:Int)):Nx (Ai p) (adv (Ai p)):=by
 obtain⟨e1,e2,e3⟩:=ia h hb
 exact DI (bO h hb) (by rw[e1,e2];exact hi) (by rw[e3];exact(ND h hb).1)
theorem IQ:∀(f:Nat) (p:Pr),okP p→Nx p (unF f p).2
 |0,p,h=>.refl h
 |f+1,p,h=>by
  simp only[unF]
  split
  ·exact Ff 51 h
  ·split
   ·rename_i hi
    split
    ·rename_i hb
     have h1:=Fg h hb (BB hi).2
     exact HF h hb (h1.trans (IQ f _ h1.ok))
    ·rename_i hb;exact MT h (by simpa using hb)
   ·split
    ·rename_i hi
     split
     ·rename_i hb
      have h1:=Fg h hb (BB hi).2
      have h2:=h1.trans (QW (IQ f) _ h1.ok)
      exact HF h hb (h2.trans (BH h2.ok))
     ·rename_i hb;exact MT h (by simpa using hb)
    ·split
     ·rename_i ho _ _ _
      unfold outB at ho
      simp only[Bool.or_eq_true,bne_iff_ne,ne_eq,decide_eq_true_eq,not_or,Decidable.not_not]at ho
      exact DI h (by omega) ho.1
     ·split
      ·exact Fj h
      ·exact Ff 51 h
abbrev dpU (f:Nat) (p:Pr):Prop:=41≤p.deep+(f:Int)
theorem Xv {p:Pr} (h:okP p) (hi:p.i<(p.l.length:Int)):w64i (w64i (p.i+1)-1)=p.i:=by
 obtain⟨h1,h2,h3,_⟩:=h
 unfold w64i
 rw[wrap_i64 (n:=p.i+1) (by omega) (by omega),wrap_i64 (by omega) (by omega)];omega
theorem bP {p:Pr} (h:okP p):(nameB p=false∧nameB p=false∧nameB p=false∧nameB p=false)∨(nameB p=true∧IntKind.i64.wrap (IntKind.i64.wrap (p.i+1)-1)=p.i∧(0≤p.i)=True∧(p.i<(p.l.length:Int))=True):=by
 cases hb:nameB p with
 |false=>exact .inl ⟨rfl,rfl,rfl,rfl⟩
 |true=>exact .inr ⟨rfl,Xv h (IP hb).2,by simp[h.1],by simp[(IP hb).2]⟩
theorem sK {p:Pr} (h:okP p) (hi:p.i<(p.l.length:Int)):Ed (tk p).t:=by
 obtain⟨h1,h2,h3,h4,h5,h8⟩:=h
 have hm:tk p∈p.l:=by
  unfold tk
  have:p.i.toNat<p.l.length:=by omega
  rw[List.getD,List.getElem?_eq_getElem this];exact List.getElem_mem this
 have:=h8 _ hm
 show _≤4294967296
 omega
abbrev exS:Pr→R Ex:=GJ (unF 41)
theorem KR {p:Pr} (h:okP p):dpU 41 p:=by
 have:=h.2.2.2.1
 show 41≤p.deep+((41:Nat):Int)
 simp;omega
theorem SK {t:List UInt8} {p:Pr} (h:okP p) (h0:(AX t p).e=0):(AX t p).i=p.i+1:=by
 unfold AX at h0 ⊢
 cases ic:isT t p with
 |true=>rw[ic]at h0;rw[if_pos rfl];exact Ek h (BB ic).2
 |false=>
  rw[ic,if_neg (by decide)]at h0
  unfold C7 at h0
  split at h0
  ·exact absurd h0 (show ¬((51:Int)=0) by decide)
  ·rename_i hne;exact absurd (by simpa using h0) hne
theorem bQ {t:List UInt8} {p:Pr} (h:isT t p=true):Az t p=adv p:=by unfold Az;rw[if_pos h]
theorem bR {t:List UInt8} {p:Pr} (h:isT t p=false):Az t p=p:=by unfold Az;rw[if_neg (by rw[h];decide)]
end Go.Proofs.Ytjnnmindcbgjhaa
namespace Go.Proofs.Ytjnnmindcbgjhaa
open Go Go.Sy Go.RowKit
theorem AP (l:List Tok) (i en e at' deep n:Int):rPr.d [.sl [D.v (Value.int IntKind.i64 0),D.v (Value.string (bs [])),D.v (Value.int IntKind.i64 0)] (l.map Tok.r),.v (.int .i64 i),.v (.int .i64 en),.v (.int .i64 e),.v (.int .i64 at'),.v (.int .i64 deep),.v (.int .i64 n)]=some ⟨l,i,en,e,at',deep,n⟩:=Ad l i en e at' deep n
theorem AQ (l:List Tok) (i en e at' deep n:Int):mPr.d [.d (.sl [D.v (Value.int IntKind.i64 0),D.v (Value.string (bs [])),D.v (Value.int IntKind.i64 0)] (l.map Tok.r)),.v (.int .i64 i),.v (.int .i64 en),.v (.int .i64 e),.v (.int .i64 at'),.v (.int .i64 deep),.v (.int .i64 n)]=some ⟨l,i,en,e,at',deep,n⟩:=Ag l i en e at' deep n
abbrev OB (p:Pr) (t:List UInt8):Prop:=okP p
abbrev OC (p:Pr) (t:List UInt8):SV:=.one (.v (.bool (isT t p)))
abbrev KS (p:Pr) (t:List UInt8):List (Option MV):=[some (zPr,[(Az t p).c])]
noncomputable abbrev KT:ArgM ((Pr)×(List UInt8)×Unit):=(amP (mPr) (amD (cStr) am0))
abbrev kU:Prop:=Cq Try.prog 54 ((KT).args 0) (KT).mem (fun p:(Pr)×(List UInt8)×Unit=>OB p.1 p.2.1) (fun p:(Pr)×(List UInt8)×Unit=>OC p.1 p.2.1) (fun p:(Pr)×(List UInt8)×Unit=>KS p.1 p.2.1)
theorem kV:∀p,(fun p:(Pr)×(List UInt8)×Unit=>OB p.1 p.2.1) p→DY ((KT).mem p).length ((fun p:(Pr)×(List UInt8)×Unit=>KS p.1 p.2.1) p)=true:=by intro p _;rfl
theorem kW:∀p,(fun p:(Pr)×(List UInt8)×Unit=>OB p.1 p.2.1) p→BF ((fun p:(Pr)×(List UInt8)×Unit=>KS p.1 p.2.1) p).length ((fun p:(Pr)×(List UInt8)×Unit=>OC p.1 p.2.1) p)=true:=by intro p _;first|rfl|exact Ak _ _|exact Al _ _|(simp[BF,CV,Ak,Al];done)
theorem kX:∀p,(fun p:(Pr)×(List UInt8)×Unit=>OB p.1 p.2.1) p→∀q,some q∈(fun p:(Pr)×(List UInt8)×Unit=>KS p.1 p.2.1) p→∀r∈q.2,∀c∈r,c.names=[]:=by intro p _;exact FM _
attribute [local go_sem] Pr.c Tok.r Aa Ag AQ Af Ae AO ptR Ad AP AZ zTk
theorem sM:kU:=by
 rintro ⟨p,t,_u⟩ w M I lab fz xs hc hA hl hx
 refine BQ Try.func54 rfl ((KT).mem ⟨p,t,_u⟩) w M I lab fz [AR] [] ((KT).args 0 ⟨p,t,_u⟩) ((fun p:(Pr)×(List UInt8)×Unit=>KS p.1 p.2.1) ⟨p,t,_u⟩) ((fun p:(Pr)×(List UInt8)×Unit=>OC p.1 p.2.1) ⟨p,t,_u⟩) xs hA hl hx (fun v hv k hk=>by have:=(KT).an 0 ⟨p,t,_u⟩ v hv k hk;omega) (jN rfl) (jN rfl) ?_
 clear hx hl hA xs
 simp only[Try.f54]
 simp only[↓eB,seval,go_sem,AR,As]
 try simp only[A3,A4]
 repeat' first|exact ck|with_reducible apply And.intro|intro _
 all_goals try simp only[bne,Bool.not_eq_true',Bool.not_eq_false',Bool.not_not] at*
 all_goals first
  |(exact hc.i;done)
  |(refine A0 [] ?_;simp only[↓eB,seval,go_sem,bne,OC,KS,Az,adv];first|done|(simp only[*,if_true,if_false,jB,Bool.true_or,Bool.or_true,Bool.false_or,Bool.or_false,Bool.and_false,Bool.false_and,Bool.true_and,Bool.and_true,Bool.not_true,Bool.not_false,Bool.or_self,Bool.and_self,Int.reduceEq,Int.reduceNeg,Nat.reduceEqDiff,reduceCtorEq,LD,LF,FQ,GP,and_self,↓reduceIte];done)|(simp_all [Az,adv];done))
  |omega
  |(simp only[decide_eq_true_eq,decide_eq_false_iff_not]at *;omega)
  |(simp_all [Az,adv];done)
  |(simp_all [Az,adv];omega)
  |trace_state
noncomputable def A7 {X:Ctx} {w0:World}:Sy.Spec Try.prog X w0:=DT 54 Try.call54 (KT) (fun p:(Pr)×(List UInt8)×Unit=>OB p.1 p.2.1) (fun p:(Pr)×(List UInt8)×Unit=>OC p.1 p.2.1) (fun p:(Pr)×(List UInt8)×Unit=>KS p.1 p.2.1) kV kW kX sM
abbrev OD (p:Pr) (t:List UInt8):Prop:=okP p
abbrev OE (p:Pr) (t:List UInt8):SV:=.tup []
abbrev KU (p:Pr) (t:List UInt8):List (Option MV):=[some (zPr,[(AX t p).c])]
noncomputable abbrev KV:ArgM ((Pr)×(List UInt8)×Unit):=(amP (mPr) (amD (cStr) am0))
abbrev kY:Prop:=Cq Try.prog 55 ((KV).args 0) (KV).mem (fun p:(Pr)×(List UInt8)×Unit=>OD p.1 p.2.1) (fun p:(Pr)×(List UInt8)×Unit=>OE p.1 p.2.1) (fun p:(Pr)×(List UInt8)×Unit=>KU p.1 p.2.1)
theorem kZ:∀p,(fun p:(Pr)×(List UInt8)×Unit=>OD p.1 p.2.1) p→DY ((KV).mem p).length ((fun p:(Pr)×(List UInt8)×Unit=>KU p.1 p.2.1) p)=true:=by intro p _;rfl
theorem ke:∀p,(fun p:(Pr)×(List UInt8)×Unit=>OD p.1 p.2.1) p→BF ((fun p:(Pr)×(List UInt8)×Unit=>KU p.1 p.2.1) p).length ((fun p:(Pr)×(List UInt8)×Unit=>OE p.1 p.2.1) p)=true:=by intro p _;first|rfl|exact Ak _ _|exact Al _ _|(simp[BF,CV,Ak,Al];done)
theorem kh:∀p,(fun p:(Pr)×(List UInt8)×Unit=>OD p.1 p.2.1) p→∀q,some q∈(fun p:(Pr)×(List UInt8)×Unit=>KU p.1 p.2.1) p→∀r∈q.2,∀c∈r,c.names=[]:=by intro p _;exact FM _
theorem sN:kY:=by
 rintro ⟨p,t,_u⟩ w M I lab fz xs hc hA hl hx
 refine BQ Try.func55 rfl ((KV).mem ⟨p,t,_u⟩) w M I lab fz [A7,AC] [] ((KV).args 0 ⟨p,t,_u⟩) ((fun p:(Pr)×(List UInt8)×Unit=>KU p.1 p.2.1) ⟨p,t,_u⟩) ((fun p:(Pr)×(List UInt8)×Unit=>OE p.1 p.2.1) ⟨p,t,_u⟩) xs hA hl hx (fun v hv k hk=>by have:=(KV).an 0 ⟨p,t,_u⟩ v hv k hk;omega) (jN rfl) (jN rfl) ?_
 clear hx hl hA xs
 simp only[Try.f55]
 simp only[↓eB,seval,go_sem,A7,AC]
 try simp only[A3,A4]
 repeat' first|exact ck|with_reducible apply And.intro|intro _
 all_goals try simp only[bne,Bool.not_eq_true',Bool.not_eq_false',Bool.not_not] at*
 all_goals first
  |(exact hc;done)
  |((have h:=okP.i hc;simp_all [Az]);done)
  |(refine A0 [] ?_;simp only[↓eB,seval,go_sem,bne,OE,KU,AX,Az];first|done|(simp only[*,if_true,if_false,jB,Bool.true_or,Bool.or_true,Bool.false_or,Bool.or_false,Bool.and_false,Bool.false_and,Bool.true_and,Bool.and_true,Bool.not_true,Bool.not_false,Bool.or_self,Bool.and_self,Int.reduceEq,Int.reduceNeg,Nat.reduceEqDiff,reduceCtorEq,LD,LF,FQ,GP,and_self,↓reduceIte];done)|(simp_all [AX,Az];done))
  |omega
  |(simp only[decide_eq_true_eq,decide_eq_false_iff_not]at *;omega)
  |(simp_all [AX,Az];done)
  |(simp_all [AX,Az];omega)
  |trace_state
noncomputable def AG {X:Ctx} {w0:World}:Sy.Spec Try.prog X w0:=DT 55 Try.call55 (KV) (fun p:(Pr)×(List UInt8)×Unit=>OD p.1 p.2.1) (fun p:(Pr)×(List UInt8)×Unit=>OE p.1 p.2.1) (fun p:(Pr)×(List UInt8)×Unit=>KU p.1 p.2.1) kZ ke kh sN
abbrev OG (p:Pr):Prop:=okP p
abbrev OH (p:Pr):SV:=.one (.v (.string (bs (CY p))))
abbrev KW (p:Pr):List (Option MV):=[some (zPr,[(BE p).c])]
noncomputable abbrev KX:ArgM ((Pr)×Unit):=(amP (mPr) am0)
abbrev ki:Prop:=Cq Try.prog 58 ((KX).args 0) (KX).mem (fun p:(Pr)×Unit=>OG p.1) (fun p:(Pr)×Unit=>OH p.1) (fun p:(Pr)×Unit=>KW p.1)
theorem kj:∀p,(fun p:(Pr)×Unit=>OG p.1) p→DY ((KX).mem p).length ((fun p:(Pr)×Unit=>KW p.1) p)=true:=by intro p _;rfl
theorem kl:∀p,(fun p:(Pr)×Unit=>OG p.1) p→BF ((fun p:(Pr)×Unit=>KW p.1) p).length ((fun p:(Pr)×Unit=>OH p.1) p)=true:=by intro p _;first|rfl|exact Ak _ _|exact Al _ _|(simp[BF,CV,Ak,Al];done)
theorem km:∀p,(fun p:(Pr)×Unit=>OG p.1) p→∀q,some q∈(fun p:(Pr)×Unit=>KW p.1) p→∀r∈q.2,∀c∈r,c.names=[]:=by intro p _;exact FM _
theorem sO:ki:=by
 rintro ⟨p,_u⟩ w M I lab fz xs hc hA hl hx
 refine BQ Try.func58 rfl ((KX).mem ⟨p,_u⟩) w M I lab fz [A8,AC] [] ((KX).args 0 ⟨p,_u⟩) ((fun p:(Pr)×Unit=>KW p.1) ⟨p,_u⟩) ((fun p:(Pr)×Unit=>OH p.1) ⟨p,_u⟩) xs hA hl hx (fun v hv k hk=>by have:=(KX).an 0 ⟨p,_u⟩ v hv k hk;omega) (jN rfl) (jN rfl) ?_
 clear hx hl hA xs
 simp only[Try.f58]
 rcases bP hc with⟨hb,e1,e2,e3⟩|⟨hb,e1,e2,e3⟩
 all_goals simp only[↓eB,seval,go_sem,A8,AC,AN,hb,e1,e2,e3]
 all_goals
  try simp only[A3,A4]
  repeat' first|exact ck|with_reducible apply And.intro|intro _
  all_goals try simp only[bne,Bool.not_eq_true',Bool.not_eq_false',Bool.not_not] at*
  all_goals first
   |(exact hc.i;done)
   |(refine A0 [] ?_;simp only[↓eB,seval,go_sem,bne,OH,KW,CY,BE,adv,hb,tk];first|done|(simp only[*,if_true,if_false,jB,Bool.true_or,Bool.or_true,Bool.false_or,Bool.or_false,Bool.and_false,Bool.false_and,Bool.true_and,Bool.and_true,Bool.not_true,Bool.not_false,Bool.or_self,Bool.and_self,Int.reduceEq,Int.reduceNeg,Nat.reduceEqDiff,reduceCtorEq,LD,LF,FQ,GP,and_self,↓reduceIte];done)|(simp_all [CY,BE,adv];done))
   |omega
   |(simp only[decide_eq_true_eq,decide_eq_false_iff_not]at *;omega)
   |(simp_all [CY,BE,adv];done)
   |(simp_all [CY,BE,adv];omega)
   |trace_state
noncomputable def AH {X:Ctx} {w0:World}:Sy.Spec Try.prog X w0:=DT 58 Try.call58 (KX) (fun p:(Pr)×Unit=>OG p.1) (fun p:(Pr)×Unit=>OH p.1) (fun p:(Pr)×Unit=>KW p.1) kj kl km sO
abbrev OI (p:Pr):Prop:=okP p
abbrev OJ (p:Pr):SV:=.one (.v (.bool (DH p)))
abbrev KY (p:Pr):List (Option MV):=[some (zPr,[(Ai p).c])]
noncomputable abbrev KZ:ArgM ((Pr)×Unit):=(amP (mPr) am0)
abbrev kr:Prop:=Cq Try.prog 62 ((KZ).args 0) (KZ).mem (fun p:(Pr)×Unit=>OI p.1) (fun p:(Pr)×Unit=>OJ p.1) (fun p:(Pr)×Unit=>KY p.1)
theorem ku:∀p,(fun p:(Pr)×Unit=>OI p.1) p→DY ((KZ).mem p).length ((fun p:(Pr)×Unit=>KY p.1) p)=true:=by intro p _;rfl
theorem kv:∀p,(fun p:(Pr)×Unit=>OI p.1) p→BF ((fun p:(Pr)×Unit=>KY p.1) p).length ((fun p:(Pr)×Unit=>OJ p.1) p)=true:=by intro p _;first|rfl|exact Ak _ _|exact Al _ _|(simp[BF,CV,Ak,Al];done)
theorem kw:∀p,(fun p:(Pr)×Unit=>OI p.1) p→∀q,some q∈(fun p:(Pr)×Unit=>KY p.1) p→∀r∈q.2,∀c∈r,c.names=[]:=by intro p _;exact FM _
theorem sP:kr:=by
 rintro ⟨p,_u⟩ w M I lab fz xs hc hA hl hx
 refine BQ Try.func62 rfl ((KZ).mem ⟨p,_u⟩) w M I lab fz [AC] [] ((KZ).args 0 ⟨p,_u⟩) ((fun p:(Pr)×Unit=>KY p.1) ⟨p,_u⟩) ((fun p:(Pr)×Unit=>OJ p.1) ⟨p,_u⟩) xs hA hl hx (fun v hv k hk=>by have:=(KZ).an 0 ⟨p,_u⟩ v hv k hk;omega) (jN rfl) (jN rfl) ?_
 clear hx hl hA xs
 simp only[Try.f62]
 simp only[↓eB,seval,go_sem,AC]
 try simp only[A3,A4]
 repeat' first|exact ck|with_reducible apply And.intro|intro _
 all_goals try simp only[bne,Bool.not_eq_true',Bool.not_eq_false',Bool.not_not] at*
 all_goals first
  |(exact hc.i;done)
  |(refine A0 [] ?_;simp only[↓eB,seval,go_sem,bne,OJ,KY,DH,Ai];first|done|(simp only[*,if_true,if_false,jB,Bool.true_or,Bool.or_true,Bool.false_or,Bool.or_false,Bool.and_false,Bool.false_and,Bool.true_and,Bool.and_true,Bool.not_true,Bool.not_false,Bool.or_self,Bool.and_self,Int.reduceEq,Int.reduceNeg,Nat.reduceEqDiff,reduceCtorEq,LD,LF,FQ,GP,and_self,↓reduceIte];done)|(simp_all [DH,Ai];done))
  |omega
  |(simp only[decide_eq_true_eq,decide_eq_false_iff_not]at *;omega)
  |(simp_all [DH,Ai];done)
  |(simp_all [DH,Ai];omega)
  |trace_state
noncomputable def AM {X:Ctx} {w0:World}:Sy.Spec Try.prog X w0:=DT 62 Try.call62 (KZ) (fun p:(Pr)×Unit=>OI p.1) (fun p:(Pr)×Unit=>OJ p.1) (fun p:(Pr)×Unit=>KY p.1) ku kv kw sP
end Go.Proofs.Ytjnnmindcbgjhaa
