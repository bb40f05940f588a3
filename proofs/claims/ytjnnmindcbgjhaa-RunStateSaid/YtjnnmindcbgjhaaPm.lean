/- The parser, in plain words. No conditions but those in each statement. -/
import Derived.Test.YtjnnmindcbgjhaaMi1
set_option linter.unusedVariables false
set_option linter.unusedSimpArgs false
namespace Go.Proofs.Ytjnnmindcbgjhaa
open Go Go.Sy Go.RowKit
def adv (p:Pr):Pr:={ p with i:=w64i (p.i+1) }
def BC (t:List UInt8) (p:Pr):Pr:=if isT t p=true then adv p else p
def B2 (t:List UInt8) (p:Pr):Pr:=if isT t p=true then adv p else CJ 51 p
def Cz (p:Pr):List UInt8:=if nameB p=true then (tk p).t else []
def BX (p:Pr):Pr:=if nameB p=true then adv p else CJ 51 p
def Es (p:Pr):Bool:=p.e==0&&!decide (40≤p.deep)
def Bm (p:Pr):Pr:=if (p.e==0)=true then (if decide (40≤p.deep)=true then CJ 52 p else { p with deep:=w64i (p.deep+1) }) else p
def shut (p:Pr):Pr:={ p with deep:=w64i (p.deep-1) }
def outB (p:Pr):Bool:=p.e != 0||decide ((p.l.length:Int)≤p.i)
abbrev R (A:Type):=A×Pr
def JD (u:Pr→R Ex):Nat→Ex→Pr→R Ex
 |0,a,p=>(a,p)
 |k+1,a,p=>
  if (p.e==0)=true then
   (
    if isT [42] p=true then JD u k (.mk 4 0 [] a (u (adv p)).1) (u (adv p)).2
    else if isT [47] p=true then JD u k (.mk 5 0 [] a (u (adv p)).1) (u (adv p)).2
    else if isT [37] p=true then JD u k (.mk 6 0 [] a (u (adv p)).1) (u (adv p)).2
    else (a,p))
  else (a,p)
def FW (u:Pr→R Ex) (p:Pr):R Ex:=JD u p.l.length (u p).1 (u p).2
def NM (u:Pr→R Ex):Nat→Ex→Pr→R Ex
 |0,a,p=>(a,p)
 |k+1,a,p=>
  if (p.e==0)=true then
   (
    if isT [45] p=true then NM u k (.mk 3 0 [] a (FW u (adv p)).1) (FW u (adv p)).2
    else if isT [43] p=true then NM u k (.mk 2 0 [] a (FW u (adv p)).1) (FW u (adv p)).2
    else (a,p))
  else (a,p)
def KW (u:Pr→R Ex) (p:Pr):R Ex:=NM u p.l.length (FW u p).1 (FW u p).2
def unF:Nat→Pr→R Ex
 |0,p=>(.nil,p)
 |f+1,p=>
  if outB p=true then (.nil,CJ 51 p)
  else if isT [45] p=true then
   (if Es p=true then (.mk 7 0 [] (unF f (adv (Bm p))).1 .nil,shut (unF f (adv (Bm p))).2) else (.nil,Bm p))
  else if isT [40] p=true then
   (if Es p=true then ((KW (unF f) (adv (Bm p))).1,shut (B2 [41] (KW (unF f) (adv (Bm p))).2)) else (.nil,Bm p))
  else if ((tk p).k==1)=true then (.mk 0 (numW (tk p).t 0) [] .nil .nil,adv p)
  else if nameB p=true then (.mk 1 0 (Cz p) .nil .nil,BX p)
  else (.nil,CJ 51 p)
def okP (p:Pr):Prop:=0≤p.i∧p.i≤(p.l.length:Int)∧p.l.length≤4096∧0≤p.deep∧p.deep≤40∧∀x∈p.l,x.t.length≤4096
structure Nx (p q:Pr):Prop where
 ok:okP q
 l:q.l=p.l
 en:q.en=p.en
 i:p.i≤q.i
 d:q.deep=p.deep
 e:p.e≠0→q.e=p.e∧q.at'=p.at'
theorem Nx.refl {p:Pr} (h:okP p):Nx p p:=⟨h,rfl,rfl,Int.le_refl _,rfl,fun _=>⟨rfl,rfl⟩⟩
theorem Nx.trans {p q r:Pr} (h1:Nx p q) (h2:Nx q r):Nx p r:=
 ⟨h2.ok,h2.l.trans h1.l,h2.en.trans h1.en,Int.le_trans h1.i h2.i,h2.d.trans h1.d,fun h=>by
  obtain⟨e1,e2⟩:=h1.e h
  obtain⟨e3,e4⟩:=h2.e (by rw[e1];exact h)
  exact⟨e3.trans e1,e4.trans e2⟩⟩
theorem okP.i {p:Pr} (h:okP p):okI p:=⟨h.1,h.2.1,h.2.2.1⟩
theorem BB {t:List UInt8} {p:Pr} (h:isT t p=true):p.e=0∧p.i<(p.l.length:Int):=by
 unfold isT at h
 simp only[Bool.and_eq_true,beq_iff_eq,decide_eq_true_eq]at h
 exact⟨h.1.1.1,h.1.1.2⟩
theorem JE {p:Pr} (h:nameB p=true):p.e=0∧p.i<(p.l.length:Int):=by
 unfold nameB at h
 simp only[Bool.and_eq_true,beq_iff_eq,decide_eq_true_eq]at h
 exact⟨h.1.1.1,h.1.1.2⟩
theorem IV {p:Pr} (h:okP p) (hi:p.i<(p.l.length:Int)):(adv p).i=p.i+1:=by
 obtain⟨h1,h2,h3,_⟩:=h
 show w64i (p.i+1)=_
 unfold w64i
 rw[wrap_i64 (by omega) (by omega)]
theorem Dh {p:Pr} (h:okP p) (hi:p.i<(p.l.length:Int)) (he:p.e=0):Nx p (adv p):=by
 have e:=IV h hi
 obtain⟨h1,h2,h3,h4,h5,h6⟩:=h
 exact⟨⟨by rw[e];omega,by rw[e];show p.i+1≤(p.l.length:Int);omega,h3,h4,h5,h6⟩,rfl,rfl,by rw[e];omega,rfl,fun h=>absurd he h⟩
theorem nW (c:Int) (p:Pr):(CJ c p).l=p.l∧(CJ c p).i=p.i∧(CJ c p).en=p.en∧(CJ c p).deep=p.deep∧(CJ c p).n=p.n:=by
 unfold CJ;split<;>exact⟨rfl,rfl,rfl,rfl,rfl⟩
theorem F2 {p:Pr} (c:Int) (h:okP p):Nx p (CJ c p):=by
 obtain⟨e1,e2,e3,e4,e5⟩:=nW c p
 refine⟨?_,e1,e3,by rw[e2];exact Int.le_refl _,e4,fun he=>?_⟩
 ·unfold okP;rw[e1,e2,e4];exact h
 ·unfold CJ;rw[if_neg (by simpa using he)];exact⟨rfl,rfl⟩
theorem dX {t:List UInt8} {p:Pr} (h:okP p):Nx p (BC t p):=by
 unfold BC;split
 ·rename_i hi;exact Dh h (BB hi).2 (BB hi).1
 ·exact .refl h
theorem BE {t:List UInt8} {p:Pr} (h:okP p):Nx p (B2 t p):=by
 unfold B2;split
 ·rename_i hi;exact Dh h (BB hi).2 (BB hi).1
 ·exact F2 51 h
theorem FP {p:Pr} (h:okP p):Nx p (BX p):=by
 unfold BX;split
 ·rename_i hi;exact Dh h (JE hi).2 (JE hi).1
 ·exact F2 51 h
theorem M8 {p:Pr} (h:okP p) (hb:Es p=false):Nx p (Bm p):=by
 unfold Es at hb
 unfold Bm
 split
 ·rename_i he
  rw[he]at hb
  simp only[Bool.true_and,Bool.not_eq_false']at hb
  rw[if_pos hb]
  exact F2 52 h
 ·exact .refl h
theorem Q4 {p:Pr} (h:okP p) (hb:Es p=true):p.e=0∧p.deep<40∧Bm p={ p with deep:=p.deep+1 }:=by
 unfold Es at hb
 simp only[Bool.and_eq_true,beq_iff_eq,Bool.not_eq_true',decide_eq_false_iff_not]at hb
 obtain⟨h1,h2,h3,h4,h5,h6⟩:=h
 refine⟨hb.1,by omega,?_⟩
 unfold Bm
 rw[if_pos (by simpa using hb.1),if_neg (by simpa using hb.2)]
 unfold w64i
 rw[wrap_i64 (by omega) (by omega)]
theorem ul {p:Pr} (h:okP p) (hb:Es p=true):okP (Bm p):=by
 obtain⟨h1,h2,h3⟩:=Q4 h hb
 rw[h3]
 obtain⟨h1,h2,h3,h4,h5,h6⟩:=h
 exact⟨h1,h2,h3,by show 0≤p.deep+1;omega,by show p.deep+1≤40;omega,h6⟩
theorem P9 {p q:Pr} (h:okP p) (hb:Es p=true) (hq:Nx (Bm p) q):Nx p (shut q):=by
 obtain⟨h1,h2,h3⟩:=Q4 h hb
 obtain⟨⟨o1,o2,o3,o4,o5,o6⟩,e1,e2,e3,e4,e6⟩:=hq
 rw[h3]at e1 e2 e3 e4 e6
 simp only at e1 e2 e3 e4 e6
 have hd:(shut q).deep=p.deep:=by
  show w64i (q.deep-1)=_
  rw[e4];unfold w64i
  rw[wrap_i64 (by omega) (by omega)];omega
 obtain⟨k1,k2,k3,k4,k5,k6⟩:=h
 exact⟨⟨o1,o2,o3,by rw[hd];exact k4,by rw[hd];exact k5,o6⟩,e1,e2,e3,hd,fun he=>absurd h1 he⟩
theorem Q5 {u:Pr→R Ex} (hu:∀p,okP p→Nx p (u p).2):∀(k:Nat) (a:Ex) (p:Pr),okP p→Nx p (JD u k a p).2
 |0,a,p,h=>.refl h
 |k+1,a,p,h=>by
  simp only[JD]
  (repeat' split)
  ·rename_i he hi
   have h1:=Dh h (BB hi).2 (BB hi).1
   have h2:=hu _ h1.ok
   exact(h1.trans h2).trans (Q5 hu k _ _ h2.ok)
  ·rename_i he _ hi
   have h1:=Dh h (BB hi).2 (BB hi).1
   have h2:=hu _ h1.ok
   exact(h1.trans h2).trans (Q5 hu k _ _ h2.ok)
  ·rename_i he _ _ hi
   have h1:=Dh h (BB hi).2 (BB hi).1
   have h2:=hu _ h1.ok
   exact(h1.trans h2).trans (Q5 hu k _ _ h2.ok)
  ·exact .refl h
  ·exact .refl h
theorem Jt {u:Pr→R Ex} (hu:∀p,okP p→Nx p (u p).2) (p:Pr) (h:okP p):Nx p (FW u p).2:=(hu p h).trans (Q5 hu _ _ _ (hu p h).ok)
theorem Uu {u:Pr→R Ex} (hu:∀p,okP p→Nx p (u p).2):∀(k:Nat) (a:Ex) (p:Pr),okP p→Nx p (NM u k a p).2
 |0,a,p,h=>.refl h
 |k+1,a,p,h=>by
  simp only[NM]
  (repeat' split)
  ·rename_i he hi
   have h1:=Dh h (BB hi).2 (BB hi).1
   have h2:=Jt hu _ h1.ok
   exact(h1.trans h2).trans (Uu hu k _ _ h2.ok)
  ·rename_i he _ hi
   have h1:=Dh h (BB hi).2 (BB hi).1
   have h2:=Jt hu _ h1.ok
   exact(h1.trans h2).trans (Uu hu k _ _ h2.ok)
  ·exact .refl h
  ·exact .refl h
theorem Uv {u:Pr→R Ex} (hu:∀p,okP p→Nx p (u p).2) (p:Pr) (h:okP p):Nx p (KW u p).2:=(Jt hu p h).trans (Uu hu _ _ _ (Jt hu p h).ok)
theorem A19 {p:Pr} (h:okP p) (hb:Es p=true):(Bm p).i=p.i∧(Bm p).l=p.l∧(Bm p).e=p.e:=by
 rw[(Q4 h hb).2.2];exact⟨rfl,rfl,rfl⟩
theorem Fl {p:Pr} (h:okP p) (hb:Es p=true) (hi:p.i<(p.l.length:Int)):Nx (Bm p) (adv (Bm p)):=by
 obtain⟨e1,e2,e3⟩:=A19 h hb
 exact Dh (ul h hb) (by rw[e1,e2];exact hi) (by rw[e3];exact(Q4 h hb).1)
theorem KX:∀(f:Nat) (p:Pr),okP p→Nx p (unF f p).2
 |0,p,h=>.refl h
 |f+1,p,h=>by
  simp only[unF]
  split
  ·exact F2 51 h
  ·split
   ·rename_i hi
    split
    ·rename_i hb
     have h1:=Fl h hb (BB hi).2
     exact P9 h hb (h1.trans (KX f _ h1.ok))
    ·rename_i hb;exact M8 h (by simpa using hb)
   ·split
    ·rename_i hi
     split
     ·rename_i hb
      have h1:=Fl h hb (BB hi).2
      have h2:=h1.trans (Uv (KX f) _ h1.ok)
      exact P9 h hb (h2.trans (BE h2.ok))
     ·rename_i hb;exact M8 h (by simpa using hb)
    ·split
     ·rename_i ho _ _ _
      unfold outB at ho
      simp only[Bool.or_eq_true,bne_iff_ne,ne_eq,decide_eq_true_eq,not_or,Decidable.not_not]at ho
      exact Dh h (by omega) ho.1
     ·split
      ·exact FP h
      ·exact F2 51 h
abbrev dpU (f:Nat) (p:Pr):Prop:=41≤p.deep+(f:Int)
theorem ZM {p:Pr} (h:okP p) (hi:p.i<(p.l.length:Int)):w64i (w64i (p.i+1)-1)=p.i:=by
 obtain⟨h1,h2,h3,_⟩:=h
 unfold w64i
 rw[wrap_i64 (n:=p.i+1) (by omega) (by omega),wrap_i64 (by omega) (by omega)];omega
theorem dY {p:Pr} (h:okP p):(nameB p=false∧nameB p=false∧nameB p=false∧nameB p=false)∨(nameB p=true∧IntKind.i64.wrap (IntKind.i64.wrap (p.i+1)-1)=p.i∧(0≤p.i)=True∧(p.i<(p.l.length:Int))=True):=by
 cases hb:nameB p with
 |false=>exact .inl ⟨rfl,rfl,rfl,rfl⟩
 |true=>exact .inr ⟨rfl,ZM h (JE hb).2,by simp[h.1],by simp[(JE hb).2]⟩
theorem um {p:Pr} (h:okP p) (hi:p.i<(p.l.length:Int)):Ct (tk p).t:=by
 obtain⟨h1,h2,h3,h4,h5,h8⟩:=h
 have hm:tk p∈p.l:=by
  unfold tk
  have:p.i.toNat<p.l.length:=by omega
  rw[List.getD,List.getElem?_eq_getElem this];exact List.getElem_mem this
 have:=h8 _ hm
 show _≤4294967296
 omega
abbrev exS:Pr→R Ex:=KW (unF 41)
theorem LL {p:Pr} (h:okP p):dpU 41 p:=by
 have:=h.2.2.2.1
 show 41≤p.deep+((41:Nat):Int)
 simp;omega
theorem Tp {t:List UInt8} {p:Pr} (h:okP p) (h0:(B2 t p).e=0):(B2 t p).i=p.i+1:=by
 unfold B2 at h0 ⊢
 cases ic:isT t p with
 |true=>rw[ic]at h0;rw[if_pos rfl];exact IV h (BB ic).2
 |false=>
  rw[ic,if_neg (by decide)]at h0
  unfold CJ at h0
  split at h0
  ·exact absurd h0 (show ¬((51:Int)=0) by decide)
  ·rename_i hne;exact absurd (by simpa using h0) hne
theorem dZ {t:List UInt8} {p:Pr} (h:isT t p=true):BC t p=adv p:=by unfold BC;rw[if_pos h]
theorem da {t:List UInt8} {p:Pr} (h:isT t p=false):BC t p=p:=by unfold BC;rw[if_neg (by rw[h];decide)]
end Go.Proofs.Ytjnnmindcbgjhaa
namespace Go.Proofs.Ytjnnmindcbgjhaa
open Go Go.Sy Go.RowKit
theorem AR (l:List Tok) (i en e at' deep n:Int):rPr.d [.sl [D.v (Value.int IntKind.i64 0),D.v (Value.string (bs [])),D.v (Value.int IntKind.i64 0)] (l.map Tok.r),.v (.int .i64 i),.v (.int .i64 en),.v (.int .i64 e),.v (.int .i64 at'),.v (.int .i64 deep),.v (.int .i64 n)]=some ⟨l,i,en,e,at',deep,n⟩:=Af l i en e at' deep n
theorem AS (l:List Tok) (i en e at' deep n:Int):mPr.d [.d (.sl [D.v (Value.int IntKind.i64 0),D.v (Value.string (bs [])),D.v (Value.int IntKind.i64 0)] (l.map Tok.r)),.v (.int .i64 i),.v (.int .i64 en),.v (.int .i64 e),.v (.int .i64 at'),.v (.int .i64 deep),.v (.int .i64 n)]=some ⟨l,i,en,e,at',deep,n⟩:=Ai l i en e at' deep n
abbrev PA (p:Pr) (t:List UInt8):Prop:=okP p
abbrev PB (p:Pr) (t:List UInt8):SV:=.one (.v (.bool (isT t p)))
abbrev LM (p:Pr) (t:List UInt8):List (Option MV):=[some (zPr,[(BC t p).c])]
noncomputable abbrev LN:ArgM ((Pr)×(List UInt8)×Unit):=(amP (mPr) (amD (cStr) am0))
abbrev nX:Prop:=Bt Try.prog 54 ((LN).args 0) (LN).mem (fun p:(Pr)×(List UInt8)×Unit=>PA p.1 p.2.1) (fun p:(Pr)×(List UInt8)×Unit=>PB p.1 p.2.1) (fun p:(Pr)×(List UInt8)×Unit=>LM p.1 p.2.1)
theorem nY:∀p,(fun p:(Pr)×(List UInt8)×Unit=>PA p.1 p.2.1) p→Cn ((LN).mem p).length ((fun p:(Pr)×(List UInt8)×Unit=>LM p.1 p.2.1) p)=true:=by intro p _;rfl
theorem nZ:∀p,(fun p:(Pr)×(List UInt8)×Unit=>PA p.1 p.2.1) p→Av ((fun p:(Pr)×(List UInt8)×Unit=>LM p.1 p.2.1) p).length ((fun p:(Pr)×(List UInt8)×Unit=>PB p.1 p.2.1) p)=true:=by intro p _;first|rfl|exact AO _ _|exact AP _ _|(simp[Av,C0,AO,AP];done)
theorem nb:∀p,(fun p:(Pr)×(List UInt8)×Unit=>PA p.1 p.2.1) p→∀q,some q∈(fun p:(Pr)×(List UInt8)×Unit=>LM p.1 p.2.1) p→∀r∈q.2,∀c∈r,c.names=[]:=by intro p _;exact Fq _
attribute [local go_sem] Pr.c Tok.r Ad Ai AS Ah Ag AQ ptR Af AR Ac zTk
theorem uo:nX:=by
 rintro ⟨p,t,_u⟩ w M I lab fz xs hc hA hl hx
 refine An Try.func54 rfl ((LN).mem ⟨p,t,_u⟩) w M I lab fz [AV] [] ((LN).args 0 ⟨p,t,_u⟩) ((fun p:(Pr)×(List UInt8)×Unit=>LM p.1 p.2.1) ⟨p,t,_u⟩) ((fun p:(Pr)×(List UInt8)×Unit=>PB p.1 p.2.1) ⟨p,t,_u⟩) xs hA hl hx (fun v hv k hk=>by have:=(LN).an 0 ⟨p,t,_u⟩ v hv k hk;omega) (jN rfl) (jN rfl) ?_
 clear hx hl hA xs
 simp only[Try.f54]
 simp only[↓eB,seval,go_sem,AV,Ay]
 try simp only[A3,A4]
 repeat' first|exact ck|with_reducible apply And.intro|intro _
 all_goals try simp only[bne,Bool.not_eq_true',Bool.not_eq_false',Bool.not_not] at*
 all_goals first
  |(exact hc.i;done)
  |(refine A0 [] ?_;simp only[↓eB,seval,go_sem,bne,PB,LM,BC,adv];first|done|(simp only[*,if_true,if_false,jB,Bool.true_or,Bool.or_true,Bool.false_or,Bool.or_false,Bool.and_false,Bool.false_and,Bool.true_and,Bool.and_true,Bool.not_true,Bool.not_false,Bool.or_self,Bool.and_self,Int.reduceEq,Int.reduceNeg,Nat.reduceEqDiff,reduceCtorEq,M1,M2,Fx,H9,and_self,↓reduceIte];done)|(simp_all [BC,adv];done))
  |omega
  |(simp only[decide_eq_true_eq,decide_eq_false_iff_not]at *;omega)
  |(simp_all [BC,adv];done)
  |(simp_all [BC,adv];omega)
  |trace_state
noncomputable def A7 {X:Ctx} {w0:World}:Sy.Spec Try.prog X w0:=Ca 54 Try.call54 (LN) (fun p:(Pr)×(List UInt8)×Unit=>PA p.1 p.2.1) (fun p:(Pr)×(List UInt8)×Unit=>PB p.1 p.2.1) (fun p:(Pr)×(List UInt8)×Unit=>LM p.1 p.2.1) nY nZ nb uo
abbrev PC (p:Pr) (t:List UInt8):Prop:=okP p
abbrev PD (p:Pr) (t:List UInt8):SV:=.tup []
abbrev LO (p:Pr) (t:List UInt8):List (Option MV):=[some (zPr,[(B2 t p).c])]
noncomputable abbrev LP:ArgM ((Pr)×(List UInt8)×Unit):=(amP (mPr) (amD (cStr) am0))
abbrev nd:Prop:=Bt Try.prog 55 ((LP).args 0) (LP).mem (fun p:(Pr)×(List UInt8)×Unit=>PC p.1 p.2.1) (fun p:(Pr)×(List UInt8)×Unit=>PD p.1 p.2.1) (fun p:(Pr)×(List UInt8)×Unit=>LO p.1 p.2.1)
theorem nf:∀p,(fun p:(Pr)×(List UInt8)×Unit=>PC p.1 p.2.1) p→Cn ((LP).mem p).length ((fun p:(Pr)×(List UInt8)×Unit=>LO p.1 p.2.1) p)=true:=by intro p _;rfl
theorem ng:∀p,(fun p:(Pr)×(List UInt8)×Unit=>PC p.1 p.2.1) p→Av ((fun p:(Pr)×(List UInt8)×Unit=>LO p.1 p.2.1) p).length ((fun p:(Pr)×(List UInt8)×Unit=>PD p.1 p.2.1) p)=true:=by intro p _;first|rfl|exact AO _ _|exact AP _ _|(simp[Av,C0,AO,AP];done)
theorem nh:∀p,(fun p:(Pr)×(List UInt8)×Unit=>PC p.1 p.2.1) p→∀q,some q∈(fun p:(Pr)×(List UInt8)×Unit=>LO p.1 p.2.1) p→∀r∈q.2,∀c∈r,c.names=[]:=by intro p _;exact Fq _
theorem ur:nd:=by
 rintro ⟨p,t,_u⟩ w M I lab fz xs hc hA hl hx
 refine An Try.func55 rfl ((LP).mem ⟨p,t,_u⟩) w M I lab fz [A7,AC] [] ((LP).args 0 ⟨p,t,_u⟩) ((fun p:(Pr)×(List UInt8)×Unit=>LO p.1 p.2.1) ⟨p,t,_u⟩) ((fun p:(Pr)×(List UInt8)×Unit=>PD p.1 p.2.1) ⟨p,t,_u⟩) xs hA hl hx (fun v hv k hk=>by have:=(LP).an 0 ⟨p,t,_u⟩ v hv k hk;omega) (jN rfl) (jN rfl) ?_
 clear hx hl hA xs
 simp only[Try.f55]
 simp only[↓eB,seval,go_sem,A7,AC]
 try simp only[A3,A4]
 repeat' first|exact ck|with_reducible apply And.intro|intro _
 all_goals try simp only[bne,Bool.not_eq_true',Bool.not_eq_false',Bool.not_not] at*
 all_goals first
  |(exact hc;done)
  |((have h:=okP.i hc;simp_all [BC]);done)
  |(refine A0 [] ?_;simp only[↓eB,seval,go_sem,bne,PD,LO,B2,BC];first|done|(simp only[*,if_true,if_false,jB,Bool.true_or,Bool.or_true,Bool.false_or,Bool.or_false,Bool.and_false,Bool.false_and,Bool.true_and,Bool.and_true,Bool.not_true,Bool.not_false,Bool.or_self,Bool.and_self,Int.reduceEq,Int.reduceNeg,Nat.reduceEqDiff,reduceCtorEq,M1,M2,Fx,H9,and_self,↓reduceIte];done)|(simp_all [B2,BC];done))
  |omega
  |(simp only[decide_eq_true_eq,decide_eq_false_iff_not]at *;omega)
  |(simp_all [B2,BC];done)
  |(simp_all [B2,BC];omega)
  |trace_state
noncomputable def AG {X:Ctx} {w0:World}:Sy.Spec Try.prog X w0:=Ca 55 Try.call55 (LP) (fun p:(Pr)×(List UInt8)×Unit=>PC p.1 p.2.1) (fun p:(Pr)×(List UInt8)×Unit=>PD p.1 p.2.1) (fun p:(Pr)×(List UInt8)×Unit=>LO p.1 p.2.1) nf ng nh ur
abbrev PE (p:Pr):Prop:=okP p
abbrev PF (p:Pr):SV:=.one (.v (.string (bs (Cz p))))
abbrev LQ (p:Pr):List (Option MV):=[some (zPr,[(BX p).c])]
noncomputable abbrev LR:ArgM ((Pr)×Unit):=(amP (mPr) am0)
abbrev ni:Prop:=Bt Try.prog 58 ((LR).args 0) (LR).mem (fun p:(Pr)×Unit=>PE p.1) (fun p:(Pr)×Unit=>PF p.1) (fun p:(Pr)×Unit=>LQ p.1)
theorem nj:∀p,(fun p:(Pr)×Unit=>PE p.1) p→Cn ((LR).mem p).length ((fun p:(Pr)×Unit=>LQ p.1) p)=true:=by intro p _;rfl
theorem nk:∀p,(fun p:(Pr)×Unit=>PE p.1) p→Av ((fun p:(Pr)×Unit=>LQ p.1) p).length ((fun p:(Pr)×Unit=>PF p.1) p)=true:=by intro p _;first|rfl|exact AO _ _|exact AP _ _|(simp[Av,C0,AO,AP];done)
theorem nl:∀p,(fun p:(Pr)×Unit=>PE p.1) p→∀q,some q∈(fun p:(Pr)×Unit=>LQ p.1) p→∀r∈q.2,∀c∈r,c.names=[]:=by intro p _;exact Fq _
theorem uu:ni:=by
 rintro ⟨p,_u⟩ w M I lab fz xs hc hA hl hx
 refine An Try.func58 rfl ((LR).mem ⟨p,_u⟩) w M I lab fz [A8,AC] [] ((LR).args 0 ⟨p,_u⟩) ((fun p:(Pr)×Unit=>LQ p.1) ⟨p,_u⟩) ((fun p:(Pr)×Unit=>PF p.1) ⟨p,_u⟩) xs hA hl hx (fun v hv k hk=>by have:=(LR).an 0 ⟨p,_u⟩ v hv k hk;omega) (jN rfl) (jN rfl) ?_
 clear hx hl hA xs
 simp only[Try.f58]
 rcases dY hc with⟨hb,e1,e2,e3⟩|⟨hb,e1,e2,e3⟩
 all_goals simp only[↓eB,seval,go_sem,A8,AC,AN,hb,e1,e2,e3]
 all_goals
  try simp only[A3,A4]
  repeat' first|exact ck|with_reducible apply And.intro|intro _
  all_goals try simp only[bne,Bool.not_eq_true',Bool.not_eq_false',Bool.not_not] at*
  all_goals first
   |(exact hc.i;done)
   |(refine A0 [] ?_;simp only[↓eB,seval,go_sem,bne,PF,LQ,Cz,BX,adv,hb,tk];first|done|(simp only[*,if_true,if_false,jB,Bool.true_or,Bool.or_true,Bool.false_or,Bool.or_false,Bool.and_false,Bool.false_and,Bool.true_and,Bool.and_true,Bool.not_true,Bool.not_false,Bool.or_self,Bool.and_self,Int.reduceEq,Int.reduceNeg,Nat.reduceEqDiff,reduceCtorEq,M1,M2,Fx,H9,and_self,↓reduceIte];done)|(simp_all [Cz,BX,adv];done))
   |omega
   |(simp only[decide_eq_true_eq,decide_eq_false_iff_not]at *;omega)
   |(simp_all [Cz,BX,adv];done)
   |(simp_all [Cz,BX,adv];omega)
   |trace_state
noncomputable def AH {X:Ctx} {w0:World}:Sy.Spec Try.prog X w0:=Ca 58 Try.call58 (LR) (fun p:(Pr)×Unit=>PE p.1) (fun p:(Pr)×Unit=>PF p.1) (fun p:(Pr)×Unit=>LQ p.1) nj nk nl uu
abbrev PG (p:Pr):Prop:=okP p
abbrev PH (p:Pr):SV:=.one (.v (.bool (Es p)))
abbrev LS (p:Pr):List (Option MV):=[some (zPr,[(Bm p).c])]
noncomputable abbrev LU:ArgM ((Pr)×Unit):=(amP (mPr) am0)
abbrev np:Prop:=Bt Try.prog 62 ((LU).args 0) (LU).mem (fun p:(Pr)×Unit=>PG p.1) (fun p:(Pr)×Unit=>PH p.1) (fun p:(Pr)×Unit=>LS p.1)
theorem nq:∀p,(fun p:(Pr)×Unit=>PG p.1) p→Cn ((LU).mem p).length ((fun p:(Pr)×Unit=>LS p.1) p)=true:=by intro p _;rfl
theorem nr:∀p,(fun p:(Pr)×Unit=>PG p.1) p→Av ((fun p:(Pr)×Unit=>LS p.1) p).length ((fun p:(Pr)×Unit=>PH p.1) p)=true:=by intro p _;first|rfl|exact AO _ _|exact AP _ _|(simp[Av,C0,AO,AP];done)
theorem nu:∀p,(fun p:(Pr)×Unit=>PG p.1) p→∀q,some q∈(fun p:(Pr)×Unit=>LS p.1) p→∀r∈q.2,∀c∈r,c.names=[]:=by intro p _;exact Fq _
theorem uv:np:=by
 rintro ⟨p,_u⟩ w M I lab fz xs hc hA hl hx
 refine An Try.func62 rfl ((LU).mem ⟨p,_u⟩) w M I lab fz [AC] [] ((LU).args 0 ⟨p,_u⟩) ((fun p:(Pr)×Unit=>LS p.1) ⟨p,_u⟩) ((fun p:(Pr)×Unit=>PH p.1) ⟨p,_u⟩) xs hA hl hx (fun v hv k hk=>by have:=(LU).an 0 ⟨p,_u⟩ v hv k hk;omega) (jN rfl) (jN rfl) ?_
 clear hx hl hA xs
 simp only[Try.f62]
 simp only[↓eB,seval,go_sem,AC]
 try simp only[A3,A4]
 repeat' first|exact ck|with_reducible apply And.intro|intro _
 all_goals try simp only[bne,Bool.not_eq_true',Bool.not_eq_false',Bool.not_not] at*
 all_goals first
  |(exact hc.i;done)
  |(refine A0 [] ?_;simp only[↓eB,seval,go_sem,bne,PH,LS,Es,Bm];first|done|(simp only[*,if_true,if_false,jB,Bool.true_or,Bool.or_true,Bool.false_or,Bool.or_false,Bool.and_false,Bool.false_and,Bool.true_and,Bool.and_true,Bool.not_true,Bool.not_false,Bool.or_self,Bool.and_self,Int.reduceEq,Int.reduceNeg,Nat.reduceEqDiff,reduceCtorEq,M1,M2,Fx,H9,and_self,↓reduceIte];done)|(simp_all [Es,Bm];done))
  |omega
  |(simp only[decide_eq_true_eq,decide_eq_false_iff_not]at *;omega)
  |(simp_all [Es,Bm];done)
  |(simp_all [Es,Bm];omega)
  |trace_state
noncomputable def AM {X:Ctx} {w0:World}:Sy.Spec Try.prog X w0:=Ca 62 Try.call62 (LU) (fun p:(Pr)×Unit=>PG p.1) (fun p:(Pr)×Unit=>PH p.1) (fun p:(Pr)×Unit=>LS p.1) nq nr nu uv
end Go.Proofs.Ytjnnmindcbgjhaa
