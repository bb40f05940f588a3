/- The parser, in plain words. No conditions but those in each statement. -/
import Derived.Test.YtbiepiggmagfcaaGreatDoorSh1
set_option linter.unusedVariables false
set_option linter.unusedSimpArgs false
namespace Go.Proofs.YtbiepiggmagfcaaGreatDoor
open Go Go.Sy Go.RowKit
def adv (p:Pr):Pr:={ p with i:=Ad (p.i+1) }
def B4 (t:List UInt8) (p:Pr):Pr:=if isT t p=true then adv p else p
def AD (t:List UInt8) (p:Pr):Pr:=if isT t p=true then adv p else BG 51 p
def Bi (p:Pr):List UInt8:=if nameB p=true then (tk p).t else []
def Ai (p:Pr):Pr:=if nameB p=true then adv p else BG 51 p
def C7 (p:Pr):Bool:=p.e==0&&!decide (40≤p.deep)
def AG (p:Pr):Pr:=if (p.e==0)=true then (if decide (40≤p.deep)=true then BG 52 p else { p with deep:=Ad (p.deep+1) }) else p
def shut (p:Pr):Pr:={ p with deep:=Ad (p.deep-1) }
def outB (p:Pr):Bool:=p.e != 0||decide ((p.l.length:Int)≤p.i)
abbrev R (A:Type):=A×Pr
def DE (u:Pr→R Ex):Nat→Ex→Pr→R Ex
 |0,a,p=>(a,p)
 |k+1,a,p=>
  if (p.e==0)=true then
   (
    if isT [42] p=true then DE u k (.mk 4 0 [] a (u (adv p)).1) (u (adv p)).2
    else if isT [47] p=true then DE u k (.mk 5 0 [] a (u (adv p)).1) (u (adv p)).2
    else if isT [37] p=true then DE u k (.mk 6 0 [] a (u (adv p)).1) (u (adv p)).2
    else (a,p))
  else (a,p)
def CN (u:Pr→R Ex) (p:Pr):R Ex:=DE u p.l.length (u p).1 (u p).2
def FA (u:Pr→R Ex):Nat→Ex→Pr→R Ex
 |0,a,p=>(a,p)
 |k+1,a,p=>
  if (p.e==0)=true then
   (
    if isT [45] p=true then FA u k (.mk 3 0 [] a (CN u (adv p)).1) (CN u (adv p)).2
    else if isT [43] p=true then FA u k (.mk 2 0 [] a (CN u (adv p)).1) (CN u (adv p)).2
    else (a,p))
  else (a,p)
def EO (u:Pr→R Ex) (p:Pr):R Ex:=FA u p.l.length (CN u p).1 (CN u p).2
def unF:Nat→Pr→R Ex
 |0,p=>(.nil,p)
 |f+1,p=>
  if outB p=true then (.nil,BG 51 p)
  else if isT [45] p=true then
   (if C7 p=true then (.mk 7 0 [] (unF f (adv (AG p))).1 .nil,shut (unF f (adv (AG p))).2) else (.nil,AG p))
  else if isT [40] p=true then
   (if C7 p=true then ((EO (unF f) (adv (AG p))).1,shut (AD [41] (EO (unF f) (adv (AG p))).2)) else (.nil,AG p))
  else if ((tk p).k==1)=true then (.mk 0 (Ci (tk p).t 0) [] .nil .nil,adv p)
  else if nameB p=true then (.mk 1 0 (Bi p) .nil .nil,Ai p)
  else (.nil,BG 51 p)
def okP (p:Pr):Prop:=0≤p.i∧p.i≤(p.l.length:Int)∧p.l.length≤4096∧0≤p.deep∧p.deep≤40∧∀x∈p.l,x.t.length≤4096
structure Nx (p q:Pr):Prop where
 ok:okP q
 l:q.l=p.l
 en:q.en=p.en
 i:p.i≤q.i
 d:q.deep=p.deep
 e:p.e≠0→q.e=p.e∧q.at'=p.at'
theorem Nx.refl {p:Pr} (h:okP p):Nx p p:=⟨h,rfl,rfl,Int.le_refl _,rfl,fun _=>⟨rfl,rfl⟩⟩
theorem Nx.trans {p q r:Pr} (h1:Nx p q) (h2:Nx q r):Nx p r:=
 ⟨h2.ok,h2.l.trans h1.l,h2.en.trans h1.en,Int.le_trans h1.i h2.i,h2.d.trans h1.d,fun h=>by
  obtain⟨e1,e2⟩:=h1.e h
  obtain⟨e3,e4⟩:=h2.e (by rw[e1];exact h)
  exact⟨e3.trans e1,e4.trans e2⟩⟩
theorem okP.i {p:Pr} (h:okP p):okI p:=⟨h.1,h.2.1,h.2.2.1⟩
theorem Aa {t:List UInt8} {p:Pr} (h:isT t p=true):p.e=0∧p.i<(p.l.length:Int):=by
 unfold isT at h
 simp only[Bool.and_eq_true,beq_iff_eq,decide_eq_true_eq]at h
 exact⟨h.1.1.1,h.1.1.2⟩
theorem G6 {p:Pr} (h:nameB p=true):p.e=0∧p.i<(p.l.length:Int):=by
 unfold nameB at h
 simp only[Bool.and_eq_true,beq_iff_eq,decide_eq_true_eq]at h
 exact⟨h.1.1.1,h.1.1.2⟩
theorem DF {p:Pr} (h:okP p) (hi:p.i<(p.l.length:Int)):(adv p).i=p.i+1:=by
 obtain⟨h1,h2,h3,_⟩:=h
 show Ad (p.i+1)=_
 unfold Ad
 rw[wrap_i64 (by omega) (by omega)]
theorem C8 {p:Pr} (h:okP p) (hi:p.i<(p.l.length:Int)) (he:p.e=0):Nx p (adv p):=by
 have e:=DF h hi
 obtain⟨h1,h2,h3,h4,h5,h6⟩:=h
 exact⟨⟨by rw[e];omega,by rw[e];show p.i+1≤(p.l.length:Int);omega,h3,h4,h5,h6⟩,rfl,rfl,by rw[e];omega,rfl,fun h=>absurd he h⟩
theorem ZR (c:Int) (p:Pr):(BG c p).l=p.l∧(BG c p).i=p.i∧(BG c p).en=p.en∧(BG c p).deep=p.deep∧(BG c p).n=p.n:=by
 unfold BG;split<;>exact⟨rfl,rfl,rfl,rfl,rfl⟩
theorem DG {p:Pr} (c:Int) (h:okP p):Nx p (BG c p):=by
 obtain⟨e1,e2,e3,e4,e5⟩:=ZR c p
 refine⟨?_,e1,e3,by rw[e2];exact Int.le_refl _,e4,fun he=>?_⟩
 ·unfold okP;rw[e1,e2,e4];exact h
 ·unfold BG;rw[if_neg (by simpa using he)];exact⟨rfl,rfl⟩
theorem fU {t:List UInt8} {p:Pr} (h:okP p):Nx p (B4 t p):=by
 unfold B4;split
 ·rename_i hi;exact C8 h (Aa hi).2 (Aa hi).1
 ·exact .refl h
theorem Ae {t:List UInt8} {p:Pr} (h:okP p):Nx p (AD t p):=by
 unfold AD;split
 ·rename_i hi;exact C8 h (Aa hi).2 (Aa hi).1
 ·exact DG 51 h
theorem DO {p:Pr} (h:okP p):Nx p (Ai p):=by
 unfold Ai;split
 ·rename_i hi;exact C8 h (G6 hi).2 (G6 hi).1
 ·exact DG 51 h
theorem Js {p:Pr} (h:okP p) (hb:C7 p=false):Nx p (AG p):=by
 unfold C7 at hb
 unfold AG
 split
 ·rename_i he
  rw[he]at hb
  simp only[Bool.true_and,Bool.not_eq_false']at hb
  rw[if_pos hb]
  exact DG 52 h
 ·exact .refl h
theorem MJ {p:Pr} (h:okP p) (hb:C7 p=true):p.e=0∧p.deep<40∧AG p={ p with deep:=p.deep+1 }:=by
 unfold C7 at hb
 simp only[Bool.and_eq_true,beq_iff_eq,Bool.not_eq_true',decide_eq_false_iff_not]at hb
 obtain⟨h1,h2,h3,h4,h5,h6⟩:=h
 refine⟨hb.1,by omega,?_⟩
 unfold AG
 rw[if_pos (by simpa using hb.1),if_neg (by simpa using hb.2)]
 unfold Ad
 rw[wrap_i64 (by omega) (by omega)]
theorem fV {p:Pr} (h:okP p) (hb:C7 p=true):okP (AG p):=by
 obtain⟨h1,h2,h3⟩:=MJ h hb
 rw[h3]
 obtain⟨h1,h2,h3,h4,h5,h6⟩:=h
 exact⟨h1,h2,h3,by show 0≤p.deep+1;omega,by show p.deep+1≤40;omega,h6⟩
theorem F5 {p q:Pr} (h:okP p) (hb:C7 p=true) (hq:Nx (AG p) q):Nx p (shut q):=by
 obtain⟨h1,h2,h3⟩:=MJ h hb
 obtain⟨⟨o1,o2,o3,o4,o5,o6⟩,e1,e2,e3,e4,e6⟩:=hq
 rw[h3]at e1 e2 e3 e4 e6
 simp only at e1 e2 e3 e4 e6
 have hd:(shut q).deep=p.deep:=by
  show Ad (q.deep-1)=_
  rw[e4];unfold Ad
  rw[wrap_i64 (by omega) (by omega)];omega
 obtain⟨k1,k2,k3,k4,k5,k6⟩:=h
 exact⟨⟨o1,o2,o3,by rw[hd];exact k4,by rw[hd];exact k5,o6⟩,e1,e2,e3,hd,fun he=>absurd h1 he⟩
theorem O5 {u:Pr→R Ex} (hu:∀p,okP p→Nx p (u p).2):∀(k:Nat) (a:Ex) (p:Pr),okP p→Nx p (DE u k a p).2
 |0,a,p,h=>.refl h
 |k+1,a,p,h=>by
  simp only[DE]
  (repeat' split)
  ·rename_i he hi
   have h1:=C8 h (Aa hi).2 (Aa hi).1
   have h2:=hu _ h1.ok
   exact(h1.trans h2).trans (O5 hu k _ _ h2.ok)
  ·rename_i he _ hi
   have h1:=C8 h (Aa hi).2 (Aa hi).1
   have h2:=hu _ h1.ok
   exact(h1.trans h2).trans (O5 hu k _ _ h2.ok)
  ·rename_i he _ _ hi
   have h1:=C8 h (Aa hi).2 (Aa hi).1
   have h2:=hu _ h1.ok
   exact(h1.trans h2).trans (O5 hu k _ _ h2.ok)
  ·exact .refl h
  ·exact .refl h
theorem Gs {u:Pr→R Ex} (hu:∀p,okP p→Nx p (u p).2) (p:Pr) (h:okP p):Nx p (CN u p).2:=(hu p h).trans (O5 hu _ _ _ (hu p h).ok)
theorem UD {u:Pr→R Ex} (hu:∀p,okP p→Nx p (u p).2):∀(k:Nat) (a:Ex) (p:Pr),okP p→Nx p (FA u k a p).2
 |0,a,p,h=>.refl h
 |k+1,a,p,h=>by
  simp only[FA]
  (repeat' split)
  ·rename_i he hi
   have h1:=C8 h (Aa hi).2 (Aa hi).1
   have h2:=Gs hu _ h1.ok
   exact(h1.trans h2).trans (UD hu k _ _ h2.ok)
  ·rename_i he _ hi
   have h1:=C8 h (Aa hi).2 (Aa hi).1
   have h2:=Gs hu _ h1.ok
   exact(h1.trans h2).trans (UD hu k _ _ h2.ok)
  ·exact .refl h
  ·exact .refl h
theorem Qb {u:Pr→R Ex} (hu:∀p,okP p→Nx p (u p).2) (p:Pr) (h:okP p):Nx p (EO u p).2:=(Gs hu p h).trans (UD hu _ _ _ (Gs hu p h).ok)
theorem nE {p:Pr} (h:okP p) (hb:C7 p=true):(AG p).i=p.i∧(AG p).l=p.l∧(AG p).e=p.e:=by
 rw[(MJ h hb).2.2];exact⟨rfl,rfl,rfl⟩
theorem DH {p:Pr} (h:okP p) (hb:C7 p=true) (hi:p.i<(p.l.length:Int)):Nx (AG p) (adv (AG p)):=by
 obtain⟨e1,e2,e3⟩:=nE h hb
 exact C8 (fV h hb) (by rw[e1,e2];exact hi) (by rw[e3];exact(MJ h hb).1)
theorem G7:∀(f:Nat) (p:Pr),okP p→Nx p (unF f p).2
 |0,p,h=>.refl h
 |f+1,p,h=>by
  simp only[unF]
  split
  ·exact DG 51 h
  ·split
   ·rename_i hi
    split
    ·rename_i hb
     have h1:=DH h hb (Aa hi).2
     exact F5 h hb (h1.trans (G7 f _ h1.ok))
    ·rename_i hb;exact Js h (by simpa using hb)
   ·split
    ·rename_i hi
     split
     ·rename_i hb
      have h1:=DH h hb (Aa hi).2
      have h2:=h1.trans (Qb (G7 f) _ h1.ok)
      exact F5 h hb (h2.trans (Ae h2.ok))
     ·rename_i hb;exact Js h (by simpa using hb)
    ·split
     ·rename_i ho _ _ _
      unfold outB at ho
      simp only[Bool.or_eq_true,bne_iff_ne,ne_eq,decide_eq_true_eq,not_or,Decidable.not_not]at ho
      exact C8 h (by omega) ho.1
     ·split
      ·exact DO h
      ·exact DG 51 h
abbrev dpU (f:Nat) (p:Pr):Prop:=41≤p.deep+(f:Int)
end Go.Proofs.YtbiepiggmagfcaaGreatDoor
namespace Go.Proofs.YtbiepiggmagfcaaGreatDoor
open Go Go.Sy Go.RowKit
theorem Jt (l:List Tok) (i en e at' deep n:Int):rPr.d [.sl [D.v (Value.int IntKind.i64 0),D.v (Value.string (bs [])),D.v (Value.int IntKind.i64 0)] (l.map Tok.r),.v (.int .i64 i),.v (.int .i64 en),.v (.int .i64 e),.v (.int .i64 at'),.v (.int .i64 deep),.v (.int .i64 n)]=some ⟨l,i,en,e,at',deep,n⟩:=KN l i en e at' deep n
theorem Ju (l:List Tok) (i en e at' deep n:Int):mPr.d [.d (.sl [D.v (Value.int IntKind.i64 0),D.v (Value.string (bs [])),D.v (Value.int IntKind.i64 0)] (l.map Tok.r)),.v (.int .i64 i),.v (.int .i64 en),.v (.int .i64 e),.v (.int .i64 at'),.v (.int .i64 deep),.v (.int .i64 n)]=some ⟨l,i,en,e,at',deep,n⟩:=KQ l i en e at' deep n
abbrev NF (p:Pr) (t:List UInt8):Prop:=okP p
abbrev NG (p:Pr) (t:List UInt8):SV:=.one (.v (.bool (isT t p)))
abbrev Iq (p:Pr) (t:List UInt8):List (Option MV):=[some (zPr,[(B4 t p).c])]
noncomputable abbrev Ir:ArgM ((Pr)×(List UInt8)×Unit):=(amP (mPr) (amD (cStr) am0))
abbrev qE:Prop:=BD Tryz.prog 32 ((Ir).args 0) (Ir).mem (fun p:(Pr)×(List UInt8)×Unit=>NF p.1 p.2.1) (fun p:(Pr)×(List UInt8)×Unit=>NG p.1 p.2.1) (fun p:(Pr)×(List UInt8)×Unit=>Iq p.1 p.2.1)
theorem qF:∀p,(fun p:(Pr)×(List UInt8)×Unit=>NF p.1 p.2.1) p→BA ((Ir).mem p).length ((fun p:(Pr)×(List UInt8)×Unit=>Iq p.1 p.2.1) p)=true:=by intro p _;rfl
theorem qG:∀p,(fun p:(Pr)×(List UInt8)×Unit=>NF p.1 p.2.1) p→AQ ((fun p:(Pr)×(List UInt8)×Unit=>Iq p.1 p.2.1) p).length ((fun p:(Pr)×(List UInt8)×Unit=>NG p.1 p.2.1) p)=true:=by intro p _;first|rfl|exact AK _ _|exact AL _ _|(simp[AQ,Bn,AK,AL];done)
theorem qH:∀p,(fun p:(Pr)×(List UInt8)×Unit=>NF p.1 p.2.1) p→∀q,some q∈(fun p:(Pr)×(List UInt8)×Unit=>Iq p.1 p.2.1) p→∀r∈q.2,∀c∈r,c.names=[]:=by intro p _;exact DY _
attribute [local go_sem] Pr.c Tok.r Ke KQ Ju KP KO Ji ptR KN Jt Kb Av Bo Au GG D1 zTk
theorem wu:qE:=by
 rintro ⟨p,t,_u⟩ w M I lab fz xs hc hA hl hx
 refine AJ Tryz.func32 rfl _ w M I lab fz [Bo] [] _ _ _ xs hA hl hx (fun v hv k hk=>by have:=(Ir).an 0 ⟨p,t,_u⟩ v hv k hk;omega) (jN rfl) (jN rfl) ?_
 clear hx hl hA xs
 simp only[Tryz.f32]
 simp only[↓eB,seval,go_sem]
 try simp only[A1,A2]
 repeat' first|exact ck|with_reducible apply And.intro|intro _
 all_goals try simp only[bne,Bool.not_eq_true',Bool.not_eq_false',Bool.not_not] at*
 all_goals first
  |(exact hc.i;done)
  |(refine A0 [] ?_;simp only[↓eB,seval,go_sem,bne,NG,Iq,B4,adv];first|done|(simp only[*,if_true,if_false,jB,Bool.true_or,Bool.or_true,Bool.false_or,Bool.or_false,Bool.and_false,Bool.false_and,Bool.true_and,Bool.and_true,Bool.not_true,Bool.not_false,Bool.or_self,Bool.and_self,Int.reduceEq,Int.reduceNeg,Nat.reduceEqDiff,reduceCtorEq,Jf,Jg,De,ES,and_self,↓reduceIte];done)|(simp_all [B4,adv];done))
  |omega
  |(simp only[decide_eq_true_eq,decide_eq_false_iff_not]at *;omega)
  |(simp_all [B4,adv];done)
  |(simp_all [B4,adv];omega)
  |trace_state
noncomputable def Ap {X:Ctx} {w0:World}:Sy.Spec Tryz.prog X w0:=Be 32 Tryz.call32 (Ir) (fun p:(Pr)×(List UInt8)×Unit=>NF p.1 p.2.1) (fun p:(Pr)×(List UInt8)×Unit=>NG p.1 p.2.1) (fun p:(Pr)×(List UInt8)×Unit=>Iq p.1 p.2.1) qF qG qH wu
abbrev NH (p:Pr) (t:List UInt8):Prop:=okP p
abbrev NI (p:Pr) (t:List UInt8):SV:=.tup []
abbrev It (p:Pr) (t:List UInt8):List (Option MV):=[some (zPr,[(AD t p).c])]
noncomputable abbrev Iu:ArgM ((Pr)×(List UInt8)×Unit):=(amP (mPr) (amD (cStr) am0))
abbrev qI:Prop:=BD Tryz.prog 30 ((Iu).args 0) (Iu).mem (fun p:(Pr)×(List UInt8)×Unit=>NH p.1 p.2.1) (fun p:(Pr)×(List UInt8)×Unit=>NI p.1 p.2.1) (fun p:(Pr)×(List UInt8)×Unit=>It p.1 p.2.1)
theorem qJ:∀p,(fun p:(Pr)×(List UInt8)×Unit=>NH p.1 p.2.1) p→BA ((Iu).mem p).length ((fun p:(Pr)×(List UInt8)×Unit=>It p.1 p.2.1) p)=true:=by intro p _;rfl
theorem qK:∀p,(fun p:(Pr)×(List UInt8)×Unit=>NH p.1 p.2.1) p→AQ ((fun p:(Pr)×(List UInt8)×Unit=>It p.1 p.2.1) p).length ((fun p:(Pr)×(List UInt8)×Unit=>NI p.1 p.2.1) p)=true:=by intro p _;first|rfl|exact AK _ _|exact AL _ _|(simp[AQ,Bn,AK,AL];done)
theorem qL:∀p,(fun p:(Pr)×(List UInt8)×Unit=>NH p.1 p.2.1) p→∀q,some q∈(fun p:(Pr)×(List UInt8)×Unit=>It p.1 p.2.1) p→∀r∈q.2,∀c∈r,c.names=[]:=by intro p _;exact DY _
theorem wv:qI:=by
 rintro ⟨p,t,_u⟩ w M I lab fz xs hc hA hl hx
 refine AJ Tryz.func30 rfl _ w M I lab fz [Ap,Av] [] _ _ _ xs hA hl hx (fun v hv k hk=>by have:=(Iu).an 0 ⟨p,t,_u⟩ v hv k hk;omega) (jN rfl) (jN rfl) ?_
 clear hx hl hA xs
 simp only[Tryz.f30]
 simp only[↓eB,seval,go_sem,Ap]
 try simp only[A1,A2]
 repeat' first|exact ck|with_reducible apply And.intro|intro _
 all_goals try simp only[bne,Bool.not_eq_true',Bool.not_eq_false',Bool.not_not] at*
 all_goals first
  |(exact hc;done)
  |((have h:=okP.i hc;simp_all [B4]);done)
  |(refine A0 [] ?_;simp only[↓eB,seval,go_sem,bne,NI,It,AD,B4];first|done|(simp only[*,if_true,if_false,jB,Bool.true_or,Bool.or_true,Bool.false_or,Bool.or_false,Bool.and_false,Bool.false_and,Bool.true_and,Bool.and_true,Bool.not_true,Bool.not_false,Bool.or_self,Bool.and_self,Int.reduceEq,Int.reduceNeg,Nat.reduceEqDiff,reduceCtorEq,Jf,Jg,De,ES,and_self,↓reduceIte];done)|(simp_all [AD,B4];done))
  |omega
  |(simp only[decide_eq_true_eq,decide_eq_false_iff_not]at *;omega)
  |(simp_all [AD,B4];done)
  |(simp_all [AD,B4];omega)
  |trace_state
noncomputable def BE {X:Ctx} {w0:World}:Sy.Spec Tryz.prog X w0:=Be 30 Tryz.call30 (Iu) (fun p:(Pr)×(List UInt8)×Unit=>NH p.1 p.2.1) (fun p:(Pr)×(List UInt8)×Unit=>NI p.1 p.2.1) (fun p:(Pr)×(List UInt8)×Unit=>It p.1 p.2.1) qJ qK qL wv
theorem ZS {p:Pr} (h:okP p) (hi:p.i<(p.l.length:Int)):Ad (Ad (p.i+1)-1)=p.i:=by
 obtain⟨h1,h2,h3,_⟩:=h
 unfold Ad
 rw[wrap_i64 (n:=p.i+1) (by omega) (by omega),wrap_i64 (by omega) (by omega)];omega
theorem fW {p:Pr} (h:okP p):(nameB p=false∧nameB p=false∧nameB p=false∧nameB p=false)∨(nameB p=true∧IntKind.i64.wrap (IntKind.i64.wrap (p.i+1)-1)=p.i∧(0≤p.i)=True∧(p.i<(p.l.length:Int))=True):=by
 cases hb:nameB p with
 |false=>exact .inl ⟨rfl,rfl,rfl,rfl⟩
 |true=>exact .inr ⟨rfl,ZS h (G6 hb).2,by simp[h.1],by simp[(G6 hb).2]⟩
abbrev NJ (p:Pr):Prop:=okP p
abbrev NK (p:Pr):SV:=.one (.v (.string (bs (Bi p))))
abbrev Iw (p:Pr):List (Option MV):=[some (zPr,[(Ai p).c])]
noncomputable abbrev Ix:ArgM ((Pr)×Unit):=(amP (mPr) am0)
abbrev qM:Prop:=BD Tryz.prog 31 ((Ix).args 0) (Ix).mem (fun p:(Pr)×Unit=>NJ p.1) (fun p:(Pr)×Unit=>NK p.1) (fun p:(Pr)×Unit=>Iw p.1)
theorem qN:∀p,(fun p:(Pr)×Unit=>NJ p.1) p→BA ((Ix).mem p).length ((fun p:(Pr)×Unit=>Iw p.1) p)=true:=by intro p _;rfl
theorem qO:∀p,(fun p:(Pr)×Unit=>NJ p.1) p→AQ ((fun p:(Pr)×Unit=>Iw p.1) p).length ((fun p:(Pr)×Unit=>NK p.1) p)=true:=by intro p _;first|rfl|exact AK _ _|exact AL _ _|(simp[AQ,Bn,AK,AL];done)
theorem qP:∀p,(fun p:(Pr)×Unit=>NJ p.1) p→∀q,some q∈(fun p:(Pr)×Unit=>Iw p.1) p→∀r∈q.2,∀c∈r,c.names=[]:=by intro p _;exact DY _
theorem ww:qM:=by
 rintro ⟨p,_u⟩ w M I lab fz xs hc hA hl hx
 refine AJ Tryz.func31 rfl _ w M I lab fz [Au,Av] [] _ _ _ xs hA hl hx (fun v hv k hk=>by have:=(Ix).an 0 ⟨p,_u⟩ v hv k hk;omega) (jN rfl) (jN rfl) ?_
 clear hx hl hA xs
 simp only[Tryz.f31]
 rcases fW hc with⟨hb,e1,e2,e3⟩|⟨hb,e1,e2,e3⟩
 all_goals simp only[↓eB,seval,go_sem,hb,e1,e2,e3]
 all_goals
  try simp only[A1,A2]
  repeat' first|exact ck|with_reducible apply And.intro|intro _
  all_goals try simp only[bne,Bool.not_eq_true',Bool.not_eq_false',Bool.not_not] at*
  all_goals first
   |(exact hc.i;done)
   |(refine A0 [] ?_;simp only[↓eB,seval,go_sem,bne,NK,Iw,Bi,Ai,adv,hb,tk];first|done|(simp only[*,if_true,if_false,jB,Bool.true_or,Bool.or_true,Bool.false_or,Bool.or_false,Bool.and_false,Bool.false_and,Bool.true_and,Bool.and_true,Bool.not_true,Bool.not_false,Bool.or_self,Bool.and_self,Int.reduceEq,Int.reduceNeg,Nat.reduceEqDiff,reduceCtorEq,Jf,Jg,De,ES,and_self,↓reduceIte];done)|(simp_all [Bi,Ai,adv];done))
   |omega
   |(simp only[decide_eq_true_eq,decide_eq_false_iff_not]at *;omega)
   |(simp_all [Bi,Ai,adv];done)
   |(simp_all [Bi,Ai,adv];omega)
   |trace_state
noncomputable def BV {X:Ctx} {w0:World}:Sy.Spec Tryz.prog X w0:=Be 31 Tryz.call31 (Ix) (fun p:(Pr)×Unit=>NJ p.1) (fun p:(Pr)×Unit=>NK p.1) (fun p:(Pr)×Unit=>Iw p.1) qN qO qP ww
abbrev NL (p:Pr):Prop:=okP p
abbrev NM (p:Pr):SV:=.one (.v (.bool (C7 p)))
abbrev Iy (p:Pr):List (Option MV):=[some (zPr,[(AG p).c])]
noncomputable abbrev Iz:ArgM ((Pr)×Unit):=(amP (mPr) am0)
abbrev qQ:Prop:=BD Tryz.prog 35 ((Iz).args 0) (Iz).mem (fun p:(Pr)×Unit=>NL p.1) (fun p:(Pr)×Unit=>NM p.1) (fun p:(Pr)×Unit=>Iy p.1)
theorem qR:∀p,(fun p:(Pr)×Unit=>NL p.1) p→BA ((Iz).mem p).length ((fun p:(Pr)×Unit=>Iy p.1) p)=true:=by intro p _;rfl
theorem qS:∀p,(fun p:(Pr)×Unit=>NL p.1) p→AQ ((fun p:(Pr)×Unit=>Iy p.1) p).length ((fun p:(Pr)×Unit=>NM p.1) p)=true:=by intro p _;first|rfl|exact AK _ _|exact AL _ _|(simp[AQ,Bn,AK,AL];done)
theorem qT:∀p,(fun p:(Pr)×Unit=>NL p.1) p→∀q,some q∈(fun p:(Pr)×Unit=>Iy p.1) p→∀r∈q.2,∀c∈r,c.names=[]:=by intro p _;exact DY _
theorem wz:qQ:=by
 rintro ⟨p,_u⟩ w M I lab fz xs hc hA hl hx
 refine AJ Tryz.func35 rfl _ w M I lab fz [Av] [] _ _ _ xs hA hl hx (fun v hv k hk=>by have:=(Iz).an 0 ⟨p,_u⟩ v hv k hk;omega) (jN rfl) (jN rfl) ?_
 clear hx hl hA xs
 simp only[Tryz.f35]
 simp only[↓eB,seval,go_sem]
 try simp only[A1,A2]
 repeat' first|exact ck|with_reducible apply And.intro|intro _
 all_goals try simp only[bne,Bool.not_eq_true',Bool.not_eq_false',Bool.not_not] at*
 all_goals first
  |(exact hc.i;done)
  |(refine A0 [] ?_;simp only[↓eB,seval,go_sem,bne,NM,Iy,C7,AG];first|done|(simp only[*,if_true,if_false,jB,Bool.true_or,Bool.or_true,Bool.false_or,Bool.or_false,Bool.and_false,Bool.false_and,Bool.true_and,Bool.and_true,Bool.not_true,Bool.not_false,Bool.or_self,Bool.and_self,Int.reduceEq,Int.reduceNeg,Nat.reduceEqDiff,reduceCtorEq,Jf,Jg,De,ES,and_self,↓reduceIte];done)|(simp_all [C7,AG];done))
  |omega
  |(simp only[decide_eq_true_eq,decide_eq_false_iff_not]at *;omega)
  |(simp_all [C7,AG];done)
  |(simp_all [C7,AG];omega)
  |trace_state
noncomputable def BW {X:Ctx} {w0:World}:Sy.Spec Tryz.prog X w0:=Be 35 Tryz.call35 (Iz) (fun p:(Pr)×Unit=>NL p.1) (fun p:(Pr)×Unit=>NM p.1) (fun p:(Pr)×Unit=>Iy p.1) qR qS qT wz
end Go.Proofs.YtbiepiggmagfcaaGreatDoor
