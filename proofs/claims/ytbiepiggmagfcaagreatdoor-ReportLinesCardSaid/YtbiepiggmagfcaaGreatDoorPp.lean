/- Functions, in plain words. No conditions but those in each statement. -/
import Derived.Test.YtbiepiggmagfcaaGreatDoorPa7
import Derived.Test.YtbiepiggmagfcaaGreatDoorSh1
set_option linter.unusedVariables false
set_option linter.unusedSimpArgs false
open List (length_append length_cons length_map)
namespace Go.Proofs.YtbiepiggmagfcaaGreatDoor
open Go Go.Sy Go.RowKit
def O7 (l:List Vr) (most:Int) (p:Pr):Bool:=nameB p&&decide (most≤(l.length:Int))
def Dc (l:List Vr) (ptr:Bool) (most:Int) (p:Pr):List Vr:=if O7 l most p=true then l else l++[⟨Bi p,ptr⟩]
def Ce (l:List Vr) (most:Int) (p:Pr):Pr:=if O7 l most p=true then BG 53 p else Ai p
theorem PT {l:List Vr} {most:Int} {p:Pr} (h:okP p):Nx p (Ce l most p):=by
 unfold Ce;split
 ·exact DG 53 h
 ·exact DO h
theorem O8 (l:List Vr) (ptr:Bool) (most:Int) (p:Pr):(Dc l ptr most p).length≤l.length+1:=by unfold Dc;split<;>simp
def KG:Nat→List Vr→Pr→R (List Vr)
 |0,l,p=>(l,p)
 |k+1,l,p=>
  if (p.e==0)=true then
   (
    if isT [41] (Ce l 6 (B4 [42] p))=true then (Dc l (isT [42] p) 6 (B4 [42] p),adv (Ce l 6 (B4 [42] p)))
    else KG k (Dc l (isT [42] p) 6 (B4 [42] p)) (AD [44] (Ce l 6 (B4 [42] p))))
  else (l,p)
def O9 (p:Pr):R (List Vr):=if isT [41] p=true then ([],adv p) else KG (p.l.length+1) [] p
def Lb (p:Pr):Bool:=isT RK p||isT tPtr p
def Hv:Nat→List Vr→Pr→R (List Vr)
 |0,l,p=>(l,p)
 |k+1,l,p=>
  if Lb p=true then Hv k (Dc l (isT tPtr p) 20 (adv p)) (AD [59] (Ce l 20 (adv p)))
  else (l,p)
def RM (p:Pr):R (List Vr):=Hv p.l.length [] p
def EQ (p:Pr):Pr:=if isT [123] p=true then (if C7 p=true then adv (AG p) else BG 51 (AG p)) else BG 51 p
def PU (p:Pr):Pr:=if (p.e==0&&decide (p.i<(p.l.length:Int)))=true then BG 51 p else p
def p0 (l:List Tok) (n:Int):Pr:=⟨l,0,n,0,0,0,0⟩
def hdP (l:List Tok) (n:Int):Pr:=AD tFn (p0 l n)
def hd2 (l:List Tok) (n:Int):Pr:=AD [40] (Ai (hdP l n))
def fp3 (l:List Tok) (n:Int):R (List Vr):=O9 (hd2 l n)
def fp4 (l:List Tok) (n:Int):R (List Vr):=RM (EQ (fp3 l n).2)
def fp5 (l:List Tok) (n:Int):R (List Sm):=A7p (fp4 l n).2
def fp6 (l:List Tok) (n:Int):Pr:=PU (fp5 l n).2
def funF (s:List UInt8):Fn×Int×Int:=
 if (rxT s).2.2 != 0 then (fn0,(rxT s).2.1,(rxT s).2.2)
 else if (fp6 (rxT s).1 (s.length:Int)).e != 0 then (fn0,(fp6 (rxT s).1 (s.length:Int)).at',(fp6 (rxT s).1 (s.length:Int)).e)
 else (⟨Bi (hdP (rxT s).1 (s.length:Int)),(fp3 (rxT s).1 (s.length:Int)).1,(fp4 (rxT s).1 (s.length:Int)).1,(fp5 (rxT s).1 (s.length:Int)).1⟩,0,0)
theorem Se (s:List UInt8) (hs:s.length≤4096):∀(f i:Nat) (out:List Tok),i≤s.length→out.length≤i→(∀x∈out,x.t.length≤4096)→(rxF s f i out).1.length≤4096∧∀x∈(rxF s f i out).1,x.t.length≤4096
 |0,i,out,hi,ho,hx=>⟨by show out.length≤4096;omega,hx⟩
 |f+1,i,out,hi,ho,hx=>by
  have hnil:([]:List Tok).length≤4096∧∀x∈([]:List Tok),x.t.length≤4096:=⟨by simp,by simp⟩
  have hsn:∀(k n:Nat) (kd:Int),0<n→i+n≤s.length→(rxF s f (i+n) (out++[⟨kd,(s.drop i).take k,(i:Int)⟩])).1.length≤4096∧∀x∈(rxF s f (i+n) (out++[⟨kd,(s.drop i).take k,(i:Int)⟩])).1,x.t.length≤4096:=by
   intro k n kd hn hin
   refine Se s hs f (i+n) _ hin (by simp;omega) ?_
   intro x hxm
   rcases List.mem_append.1 hxm with h|h
   ·exact hx x h
   ·simp only[List.mem_singleton]at h;subst h;simp only[List.length_take,List.length_drop];omega
  simp only[rxF]
  split
  ·exact⟨by show out.length≤4096;omega,hx⟩
  ·rename_i hlt
   have hlt:i<s.length:=by omega
   have sp:=fun p=>HF p (s.drop i)
   simp only[List.length_drop]at sp
   split
   ·exact Se s hs f _ _ (by omega) (by omega) hx
   split
   ·exact Se s hs f _ _ (by have:=sp nlB;omega) (by omega) hx
   split
   ·rename_i hl
    have h1:=G0 idB hlt
    rw[if_pos (show idB _=true by show (CZ _||AR _)=true;rw[hl];rfl)]at h1
    split
    ·exact hnil
    ·exact hsn _ _ 0 (by omega) (by have:=sp idB;omega)
   split
   ·rename_i hd
    have h1:=G0 AR hlt
    rw[if_pos hd]at h1
    split
    ·exact hnil
    split
    ·exact hnil
    ·exact hsn _ _ 1 (by omega) (by have:=sp AR;omega)
   split
   ·rename_i ht
    unfold U5 at ht
    simp only[Bool.and_eq_true,decide_eq_true_eq]at ht
    exact hsn 2 2 2 (by omega) (by omega)
   split
   ·exact hsn 1 1 2 (by omega) (by omega)
   ·exact hnil
theorem Sg (s:List UInt8):(rxT s).1.length≤4096∧∀x∈(rxT s).1,x.t.length≤4096:=by
 unfold rxT
 split
 ·exact⟨by simp,by simp⟩
 ·rename_i h
  exact Se s (by simp at h;omega) _ 0 [] (Nat.zero_le _) (Nat.le_refl _) (by simp)
theorem bk (s:List UInt8) (n:Int):okP (p0 (rxT s).1 n):=⟨Int.le_refl _,by show (0:Int)≤_;omega,(Sg s).1,Int.le_refl _,by show (0:Int)≤40;decide,(Sg s).2⟩
theorem fZ (s:List UInt8) (n:Int):Nx (p0 (rxT s).1 n) (hdP (rxT s).1 n):=Ae (bk s n)
theorem fb (s:List UInt8) (n:Int):Nx (p0 (rxT s).1 n) (hd2 (rxT s).1 n):=by
 have h1:=fZ s n
 have h2:=h1.trans (DO h1.ok)
 exact h2.trans (Ae h2.ok)
theorem ZX:∀(k:Nat) (l:List Vr) (p:Pr),okP p→Nx p (KG k l p).2
 |0,l,p,h=>.refl h
 |k+1,l,p,h=>by
  simp only[KG]
  split
  ·have h1:=fU (t:=[42]) h
   have h2:=h1.trans (PT (l:=l) (most:=6) h1.ok)
   split
   ·rename_i hi;exact h2.trans (AV h2.ok hi)
   ·have h3:=h2.trans (Ae (t:=[44]) h2.ok)
    exact h3.trans (ZX k _ _ h3.ok)
  ·exact .refl h
theorem ZY {p:Pr} (h:okP p):Nx p (O9 p).2:=by
 unfold O9;split
 ·rename_i hi;exact AV h hi
 ·exact ZX _ _ _ h
theorem Sh {p:Pr} (h:Lb p=true):p.e=0∧p.i<(p.l.length:Int):=by
 unfold Lb at h
 simp only[Bool.or_eq_true]at h
 rcases h with h|h<;>exact Aa h
theorem UH:∀(k:Nat) (l:List Vr) (p:Pr),okP p→Nx p (Hv k l p).2
 |0,l,p,h=>.refl h
 |k+1,l,p,h=>by
  simp only[Hv]
  split
  ·rename_i hb
   have h1:=C8 h (Sh hb).2 (Sh hb).1
   have h2:=h1.trans (PT (l:=l) (most:=20) h1.ok)
   have h3:=h2.trans (Ae (t:=[59]) h2.ok)
   exact h3.trans (UH k _ _ h3.ok)
  ·exact .refl h
end Go.Proofs.YtbiepiggmagfcaaGreatDoor
namespace Go.Proofs.YtbiepiggmagfcaaGreatDoor
open Go Go.Sy Go.RowKit
abbrev Kt:=Int×List UInt8
structure Sfx (p:Pr) (ts:List Kt):Prop where
 ok:okP p
 e:p.e=0
 t:(p.l.drop p.i.toNat).map kt=ts
section
variable {p:Pr} {k:Int} {t:List UInt8} {ts:List Kt}
theorem Sfx.lt (h:Sfx p ((k,t)::ts)):p.i<(p.l.length:Int):=by
 have:=congrArg List.length h.t
 simp only[length_map,List.length_drop,length_cons]at this
 have:=h.ok.1
 omega
theorem Sfx.hd (h:Sfx p ((k,t)::ts)):(tk p).k=k∧(tk p).t=t:=by
 have hlt:=h.lt
 have h0:=h.ok.1
 have hi:p.i.toNat<p.l.length:=by omega
 have e:=h.t
 rw[List.drop_eq_getElem_cons hi,List.map_cons]at e
 have e1:=(List.cons.inj e).1
 have e2:tk p=p.l[p.i.toNat]:=by simp[tk,List.getD,hi]
 rw[e2]
 exact⟨congrArg Prod.fst e1,congrArg Prod.snd e1⟩
theorem Sfx.adv (h:Sfx p ((k,t)::ts)):Sfx (adv p) ts:=by
 have hlt:=h.lt
 have h0:=h.ok.1
 have hi:p.i.toNat<p.l.length:=by omega
 refine⟨(C8 h.ok hlt h.e).ok,h.e,?_⟩
 have e:=h.t
 rw[List.drop_eq_getElem_cons hi,List.map_cons]at e
 have ei:(Go.Proofs.YtbiepiggmagfcaaGreatDoor.adv p).i.toNat=p.i.toNat+1:=by rw[DF h.ok hlt];omega
 show (p.l.drop (Go.Proofs.YtbiepiggmagfcaaGreatDoor.adv p).i.toNat).map kt=ts
 rw[ei]
 exact(List.cons.inj e).2
theorem Sfx.isT (h:Sfx p ((k,t)::ts)) (u:List UInt8):isT u p=(k != 1&&t==u):=by
 obtain⟨h1,h2⟩:=h.hd
 have h3:=h.lt
 have h4:=h.e
 unfold Go.Proofs.YtbiepiggmagfcaaGreatDoor.isT
 rw[h1,h2,h4]
 simp[h3]
theorem Sfx.nameB (h:Sfx p ((k,t)::ts)):nameB p=(k==0&&!Dz t):=by
 obtain⟨h1,h2⟩:=h.hd
 have h3:=h.lt
 have h4:=h.e
 unfold Go.Proofs.YtbiepiggmagfcaaGreatDoor.nameB
 rw[h1,h2,h4]
 simp[h3]
theorem Sfx.outB (h:Sfx p ((k,t)::ts)):outB p=false:=by
 have h3:=h.lt
 unfold Go.Proofs.YtbiepiggmagfcaaGreatDoor.outB
 rw[h.e]
 simp;omega
theorem Sfx.wan (h:Sfx p ((k,t)::ts)) (hk:(k != 1)=true):AD t p=Go.Proofs.YtbiepiggmagfcaaGreatDoor.adv p:=by
 unfold AD
 rw[if_pos (by rw[h.isT,hk];simp)]
theorem Sfx.nam (h:Sfx p ((0,t)::ts)) (hw:Dz t=false):Ai p=Go.Proofs.YtbiepiggmagfcaaGreatDoor.adv p:=by
 unfold Ai
 rw[if_pos (by rw[h.nameB,hw];rfl)]
theorem Sfx.nil (h:Sfx p []):p.i=(p.l.length:Int):=by
 have:=congrArg List.length h.t
 simp only[length_map,List.length_drop,List.length_nil]at this
 have:=h.ok.1
 have:=h.ok.2.1
 omega
theorem Sfx.len (h:Sfx p ts):(ts.length:Int)=(p.l.length:Int)-p.i:=by
 have:=congrArg List.length h.t
 simp only[length_map,List.length_drop]at this
 have:=h.ok.1
 have:=h.ok.2.1
 omega
end
def FW (a:Kt):Prop:=∀u∈([[42],[47],[37],[45],[43]]:List (List UInt8)),(a.1 != 1&&a.2==u)=false
theorem qh {u:Pr→R Ex} {p:Pr} {a:Kt} {ts:List Kt} (h:Sfx p (a::ts)) (ho:FW a) (e:Ex):∀k,FA u k e p=(e,p)
 |0=>rfl
 |k+1=>by
  simp only[FA]
  rw[if_pos (by rw[h.e];rfl),if_neg (by rw[h.isT,ho [45] (by decide)];decide),if_neg (by rw[h.isT,ho [43] (by decide)];decide)]
theorem Di {p:Pr} {ts:List Kt} (h:Sfx p ts):Sfx (nxt p) ts:=⟨h.ok,h.e,h.t⟩
theorem bm {p:Pr} {ts:List Kt} (h:Sfx p ts) (hd:p.deep<40):C7 p=true∧Sfx (AG p) ts∧(AG p).deep=p.deep+1:=by
 have hb:C7 p=true:=by unfold C7;rw[h.e];simp;omega
 obtain⟨_,_,h3⟩:=MJ h.ok hb
 exact⟨hb,⟨fV h.ok hb,by rw[h3];exact h.e,by rw[h3];exact h.t⟩,by rw[h3]⟩
theorem qi {p:Pr} (hn:p.n<200):¬(X2 p&&decide (200≤p.n))=true:=by
 have:decide (200≤p.n)=false:=by simp;omega
 rw[this];simp
theorem kD {st:Pr→R Sm} {p:Pr} {a:Kt} {ts:List Kt} (h:Sfx p (a::ts)) (ha:(a.1 != 1&&a.2==[125])=false) (k:Nat) (acc:List Sm):stmtsL st (k+1) acc p=stmtsL st k (acc++[(st p).1]) (st p).2:=by
 have hlt:=h.lt
 simp only[stmtsL]
 rw[if_pos (by rw[h.e];rfl),if_neg (by rw[h.isT,ha];decide),if_neg (by simp;omega)]
theorem qj {st:Pr→R Sm} {p:Pr} {ts:List Kt} (h:Sfx p ((2,[125])::ts)) (k:Nat) (acc:List Sm):stmtsL st (k+1) acc p=(acc,adv p):=by
 simp only[stmtsL]
 rw[if_pos (by rw[h.e];rfl),if_pos (by rw[h.isT];rfl)]
end Go.Proofs.YtbiepiggmagfcaaGreatDoor
namespace Go.Proofs.YtbiepiggmagfcaaGreatDoor
open Go Go.Sy Go.RowKit
inductive Cx where
 |num (d:List UInt8)
 |var (s:List UInt8)
 |neg (u:Cx)
 |par (u:Cx)
 |bin (o:Int) (a b:Cx)
def opK (o:Int):List UInt8:=if o=2 then [43] else if o=3 then [45] else if o=4 then [42] else if o=5 then [47] else [37]
def Cx.tk:Cx→List Kt
 | .num d=>[(1,d)]
 | .var s=>[(0,s)]
 | .neg u=>(2,[45])::u.tk
 | .par u=>(2,[40])::(u.tk++[(2,[41])])
 | .bin o a b=>a.tk++(2,opK o)::b.tk
def Cx.v:Cx→Ex
 | .num d=>.mk 0 (Ci d 0) [] .nil .nil
 | .var s=>.mk 1 0 s .nil .nil
 | .neg u=>.mk 7 0 [] u.v .nil
 | .par u=>u.v
 | .bin o a b=>.mk o 0 [] a.v b.v
def Cx.dp:Cx→Nat
 | .num _=>0
 | .var _=>0
 | .neg u=>u.dp+1
 | .par u=>u.dp+1
 | .bin _ a b=>max a.dp b.dp
def Cx.lv:Cx→Nat
 | .bin o _ _=>if o≤3 then 2 else 1
 |_=>0
def Cx.wf:Cx→Prop
 | .num _=>True
 | .var s=>Dz s=false
 | .neg u=>u.lv=0∧u.wf
 | .par u=>u.wf
 | .bin o a b=>((o=2∨o=3)∧b.lv≤1∧a.wf∧b.wf)∨((o=4∨o=5∨o=6)∧a.lv≤1∧b.lv=0∧a.wf∧b.wf)
def Si (a:Kt):Prop:=∀u∈([[42],[47],[37]]:List (List UInt8)),(a.1 != 1&&a.2==u)=false
theorem FW.mul {a:Kt} (h:FW a):Si a:=fun u hu=>h u (by
 simp only[List.mem_cons,List.not_mem_nil,or_false]at hu ⊢
 rcases hu with rfl|rfl|rfl<;>simp)
theorem kE {u:Pr→R Ex} {p:Pr} {a:Kt} {ts:List Kt} (h:Sfx p (a::ts)) (ho:Si a) (e:Ex):∀k,DE u k e p=(e,p)
 |0=>rfl
 |k+1=>by
  simp only[DE]
  rw[if_pos (by rw[h.e];rfl),if_neg (by rw[h.isT,ho [42] (by decide)];decide),if_neg (by rw[h.isT,ho [47] (by decide)];decide),if_neg (by rw[h.isT,ho [37] (by decide)];decide)]
theorem Sfx.lenN {p:Pr} {ts:List Kt} (h:Sfx p ts):ts.length≤p.l.length:=by
 have:=h.len
 have:=h.ok.1
 omega
structure Rdx (f:Nat) (p:Pr) (c:Cx) (a:Kt) (ts:List Kt):Prop where
 s:Sfx p (c.tk++a::ts)
 d:(c.dp:Int)+p.deep≤40
 f:41≤p.deep+(f:Int)
structure Afx (p q:Pr) (a:Kt) (ts:List Kt):Prop where
 s:Sfx q (a::ts)
 d:q.deep=p.deep
 l:q.l=p.l
theorem Afx.of {p q:Pr} {a:Kt} {ts:List Kt} (h:Nx p q) (s:Sfx q (a::ts)):Afx p q a ts:=⟨s,h.d,h.l⟩
theorem xF {f:Nat} {p:Pr} {ts:List Kt} (h:Sfx p ((2,[45])::ts)) (hb:C7 p=true):unF (f+1) p=(.mk 7 0 [] (unF f (adv (AG p))).1 .nil,shut (unF f (adv (AG p))).2):=by
 simp only[unF]
 rw[if_neg (by rw[h.outB];decide),if_pos (by rw[h.isT];decide),if_pos hb]
theorem xG {f:Nat} {p:Pr} {ts:List Kt} (h:Sfx p ((2,[40])::ts)) (hb:C7 p=true):unF (f+1) p=((EO (unF f) (adv (AG p))).1,shut (AD [41] (EO (unF f) (adv (AG p))).2)):=by
 simp only[unF]
 rw[if_neg (by rw[h.outB];decide),if_neg (by rw[h.isT];decide),if_pos (by rw[h.isT];decide),if_pos hb]
theorem xH {f:Nat} {p:Pr} {d:List UInt8} {ts:List Kt} (h:Sfx p ((1,d)::ts)):unF (f+1) p=(.mk 0 (Ci d 0) [] .nil .nil,adv p):=by
 simp only[unF]
 rw[if_neg (by rw[h.outB];decide),if_neg (by rw[h.isT];simp),if_neg (by rw[h.isT];simp),if_pos (by rw[h.hd.1];decide),h.hd.2]
theorem xI {f:Nat} {p:Pr} {s:List UInt8} {ts:List Kt} (h:Sfx p ((0,s)::ts)) (hw:Dz s=false) (h1:s≠[45]) (h2:s≠[40]):unF (f+1) p=(.mk 1 0 s .nil .nil,adv p):=by
 have hn:nameB p=true:=by rw[h.nameB,hw];rfl
 simp only[unF]
 rw[if_neg (by rw[h.outB];decide),if_neg (by rw[h.isT];simpa using h1),if_neg (by rw[h.isT];simpa using h2),if_neg (by rw[h.hd.1];decide),if_pos hn,h.nam hw]
 unfold Bi
 rw[if_pos hn,h.hd.2]
def lh (s:List UInt8):Prop:=∃c r,s=c::r∧CZ (c.toNat:Int)=true
def dh (s:List UInt8):Prop:=∃c r,s=c::r∧AR (c.toNat:Int)=true
theorem lh_ne {s:List UInt8} {c:UInt8} {r:List UInt8} (h:lh s) (hc:CZ (c.toNat:Int)=false:=by decide):s≠c::r:=by
 rintro rfl
 obtain⟨c',r',e,h⟩:=h
 simp only[List.cons.injEq]at e
 rw[← e.1,hc]at h;cases h
theorem bq {s:List UInt8} {c:UInt8} {r:List UInt8} (h:dh s) (hc:AR (c.toNat:Int)=false:=by decide):s≠c::r:=by
 rintro rfl
 obtain⟨c',r',e,h⟩:=h
 simp only[List.cons.injEq]at e
 rw[← e.1,hc]at h;cases h
def Cx.nm:Cx→Prop
 | .num d=>dh d
 | .var s=>lh s
 | .neg u=>u.nm
 | .par u=>u.nm
 | .bin _ a b=>a.nm∧b.nm
theorem Qe {p q:Pr} {a:Kt} {ts:List Kt} (h:okP p) (hb:C7 p=true) (hq:Nx (AG p) q) (s:Sfx q (a::ts)):Sfx (shut q) (a::ts):=
 ⟨(F5 h hb hq).ok,s.e,s.t⟩
theorem A7q (o:Int) (h:o=2∨o=3):Si (2,opK o):=by
 intro u hu
 rcases h with rfl|rfl
 ·revert u;decide
 ·revert u;decide
theorem Sj:FW (2,[41]):=by intro u hu;revert hu;revert u;decide
theorem Rdx.opn {f:Nat} {p:Pr} {t:List UInt8} {ts:List Kt} {d:Nat} (h:Sfx p ((2,t)::ts)) (hd:((d+1:Nat):Int)+p.deep≤40) (hf:41≤p.deep+((f+1:Nat):Int)) :
  C7 p=true∧Sfx (adv (AG p)) ts∧(d:Int)+(adv (AG p)).deep≤40∧41≤(adv (AG p)).deep+(f:Int)∧Nx (AG p) (adv (AG p)):=by
 obtain⟨h1,h2,h3⟩:=bm h (by omega)
 have h4:(adv (AG p)).deep=p.deep+1:=h3
 refine⟨h1,h2.adv,by omega,by omega,DH h.ok h1 h.lt⟩
mutual
theorem Qf:∀(c:Cx) (f:Nat) (p:Pr) (a:Kt) (ts:List Kt),c.wf→c.nm→c.lv=0→Rdx f p c a ts→∃q,unF f p=(c.v,q)∧Afx p q a ts
 | .num d,f,p,a,ts,_,_,_,h=>by
  obtain⟨f,rfl⟩:∃g,f=g+1:=⟨f-1,by have:=h.f;have:=h.s.ok.2.2.2.2.1;omega⟩
  have hs:Sfx p ((1,d)::a::ts):=h.s
  exact⟨adv p,xH hs,hs.adv,rfl,rfl⟩
 | .var s,f,p,a,ts,hw,hn,_,h=>by
  obtain⟨f,rfl⟩:∃g,f=g+1:=⟨f-1,by have:=h.f;have:=h.s.ok.2.2.2.2.1;omega⟩
  have hs:Sfx p ((0,s)::a::ts):=h.s
  exact⟨adv p,xI hs hw (lh_ne hn) (lh_ne hn),hs.adv,rfl,rfl⟩
 | .neg u,f,p,a,ts,hw,hn,_,h=>by
  obtain⟨f,rfl⟩:∃g,f=g+1:=⟨f-1,by have:=h.f;have:=h.s.ok.2.2.2.2.1;omega⟩
  have hs:Sfx p ((2,[45])::(u.tk++a::ts)):=h.s
  obtain⟨hb,s1,d1,f1,n1⟩:=Rdx.opn (d:=u.dp) hs h.d h.f
  obtain⟨q,e1,e2⟩:=Qf u f _ a ts hw.2 hn hw.1 ⟨s1,d1,f1⟩
  have n2:Nx (adv (AG p)) q:=by have:=G7 f _ s1.ok;rw[e1]at this;exact this
  refine⟨shut q,by rw[xF hs hb,e1];rfl,Afx.of (F5 hs.ok hb (n1.trans n2)) (Qe hs.ok hb (n1.trans n2) e2.s)⟩
 | .par u,f,p,a,ts,hw,hn,_,h=>by
  obtain⟨f,rfl⟩:∃g,f=g+1:=⟨f-1,by have:=h.f;have:=h.s.ok.2.2.2.2.1;omega⟩
  have hs:Sfx p ((2,[40])::(u.tk++(2,[41])::a::ts)):=by
   have:(Cx.par u).tk++a::ts=(2,[40])::(u.tk++(2,[41])::a::ts):=by simp[Cx.tk]
   rw[← this];exact h.s
  obtain⟨hb,s1,d1,f1,n1⟩:=Rdx.opn (d:=u.dp) hs h.d h.f
  obtain⟨q,e1,e2⟩:=fc u f _ (2,[41]) (a::ts) hw hn Sj ⟨s1,d1,f1⟩
  have n2:Nx (adv (AG p)) q:=by have:=Qb (G7 f) _ s1.ok;rw[e1]at this;exact this
  have e3:AD [41] q=adv q:=e2.s.wan (by decide)
  have n3:=n1.trans (n2.trans (C8 e2.s.ok e2.s.lt e2.s.e))
  refine⟨shut (adv q),by rw[xG hs hb,e1];show (u.v,shut (AD [41] q))=_;rw[e3];rfl,Afx.of (F5 hs.ok hb n3) (Qe hs.ok hb n3 e2.s.adv)⟩
 | .bin o x y,f,p,a,ts,hw,hn,hl,h=>by
  simp only[Cx.lv]at hl
  split at hl<;>omega
theorem X5:∀(c:Cx) (f:Nat) (p:Pr) (a:Kt) (ts:List Kt),c.wf→c.nm→c.lv≤1→Rdx f p c a ts→
  ∃q j,Afx p q a ts∧j≤c.tk.length∧∀k,DE (unF f) (k+j) (unF f p).1 (unF f p).2=DE (unF f) k c.v q
 | .num d,f,p,a,ts,hw,hn,hl,h=>by
  obtain⟨q,e1,e2⟩:=Qf (.num d) f p a ts hw hn rfl h
  exact⟨q,0,e2,Nat.zero_le _,fun k=>by rw[e1];rfl⟩
 | .var s,f,p,a,ts,hw,hn,hl,h=>by
  obtain⟨q,e1,e2⟩:=Qf (.var s) f p a ts hw hn rfl h
  exact⟨q,0,e2,Nat.zero_le _,fun k=>by rw[e1];rfl⟩
 | .neg u,f,p,a,ts,hw,hn,hl,h=>by
  obtain⟨q,e1,e2⟩:=Qf (.neg u) f p a ts hw hn rfl h
  exact⟨q,0,e2,Nat.zero_le _,fun k=>by rw[e1];rfl⟩
 | .par u,f,p,a,ts,hw,hn,hl,h=>by
  obtain⟨q,e1,e2⟩:=Qf (.par u) f p a ts hw hn rfl h
  exact⟨q,0,e2,Nat.zero_le _,fun k=>by rw[e1];rfl⟩
 | .bin o x y,f,p,a,ts,hw,hn,hl,h=>by
  rcases hw with⟨ho,_⟩|⟨ho,x1,y0,wx,wy⟩
  ·simp only[Cx.lv]at hl
   rw[if_pos (by omega)]at hl
   omega
  have ht:(Cx.bin o x y).tk++a::ts=x.tk++(2,opK o)::(y.tk++a::ts):=by simp[Cx.tk]
  have hs:Sfx p (x.tk++(2,opK o)::(y.tk++a::ts)):=by rw[← ht];exact h.s
  have hd:=h.d
  simp only[Cx.dp]at hd
  obtain⟨q1,j,e1,e2,e3⟩:=X5 x f p (2,opK o) (y.tk++a::ts) wx hn.1 x1 ⟨hs,by omega,h.f⟩
  obtain⟨q2,g1,g2⟩:=Qf y f (adv q1) a ts wy hn.2 y0 ⟨e1.s.adv,by show _+q1.deep≤40;rw[e1.d];omega,by show 41≤q1.deep+_;rw[e1.d];exact h.f⟩
  refine⟨q2,j+1,⟨g2.s,g2.d.trans e1.d,g2.l.trans e1.l⟩,by simp only[Cx.tk,length_append,length_cons];omega,fun k=>?_⟩
  rw[show k+(j+1)=(k+1)+j by omega,e3]
  simp only[DE]
  rw[if_pos (by rw[e1.s.e];rfl)]
  rcases ho with rfl|rfl|rfl
  ·rw[if_pos (by rw[e1.s.isT];decide),g1];rfl
  ·rw[if_neg (by rw[e1.s.isT];decide),if_pos (by rw[e1.s.isT];decide),g1];rfl
  ·rw[if_neg (by rw[e1.s.isT];decide),if_neg (by rw[e1.s.isT];decide),if_pos (by rw[e1.s.isT];decide),g1];rfl
theorem ZZ:∀(c:Cx) (f:Nat) (p:Pr) (a:Kt) (ts:List Kt),c.wf→c.nm→Si a→Rdx f p c a ts→
  ∃q j,Afx p q a ts∧j≤c.tk.length∧∀k,FA (unF f) (k+j) (CN (unF f) p).1 (CN (unF f) p).2=FA (unF f) k c.v q
 | .num d,f,p,a,ts,hw,hn,ha,h=>by
  obtain⟨q,e1,e2⟩:=Kx (.num d) f p a ts hw hn ha (Nat.zero_le _) h
  exact⟨q,0,e2,Nat.zero_le _,fun k=>by rw[e1];rfl⟩
 | .var s,f,p,a,ts,hw,hn,ha,h=>by
  obtain⟨q,e1,e2⟩:=Kx (.var s) f p a ts hw hn ha (Nat.zero_le _) h
  exact⟨q,0,e2,Nat.zero_le _,fun k=>by rw[e1];rfl⟩
 | .neg u,f,p,a,ts,hw,hn,ha,h=>by
  obtain⟨q,e1,e2⟩:=Kx (.neg u) f p a ts hw hn ha (Nat.zero_le _) h
  exact⟨q,0,e2,Nat.zero_le _,fun k=>by rw[e1];rfl⟩
 | .par u,f,p,a,ts,hw,hn,ha,h=>by
  obtain⟨q,e1,e2⟩:=Kx (.par u) f p a ts hw hn ha (Nat.zero_le _) h
  exact⟨q,0,e2,Nat.zero_le _,fun k=>by rw[e1];rfl⟩
 | .bin o x y,f,p,a,ts,hw,hn,ha,h=>by
  rcases hw with⟨ho,y1,wx,wy⟩|hw'
  ·have ht:(Cx.bin o x y).tk++a::ts=x.tk++(2,opK o)::(y.tk++a::ts):=by simp[Cx.tk]
   have hs:Sfx p (x.tk++(2,opK o)::(y.tk++a::ts)):=by rw[← ht];exact h.s
   have hd:=h.d
   simp only[Cx.dp]at hd
   obtain⟨q1,j,e1,e2,e3⟩:=ZZ x f p (2,opK o) (y.tk++a::ts) wx hn.1 (A7q o ho) ⟨hs,by omega,h.f⟩
   obtain⟨q2,g1,g2⟩:=Kx y f (adv q1) a ts wy hn.2 ha y1 ⟨e1.s.adv,by show _+q1.deep≤40;rw[e1.d];omega,by show 41≤q1.deep+_;rw[e1.d];exact h.f⟩
   refine⟨q2,j+1,⟨g2.s,g2.d.trans e1.d,g2.l.trans e1.l⟩,by simp only[Cx.tk,length_append,length_cons];omega,fun k=>?_⟩
   rw[show k+(j+1)=(k+1)+j by omega,e3]
   simp only[FA]
   rw[if_pos (by rw[e1.s.e];rfl)]
   rcases ho with rfl|rfl
   ·rw[if_neg (by rw[e1.s.isT];decide),if_pos (by rw[e1.s.isT];decide),g1];rfl
   ·rw[if_pos (by rw[e1.s.isT];decide),g1];rfl
  ·have hl:(Cx.bin o x y).lv≤1:=by simp only[Cx.lv];rw[if_neg (by have:=hw'.1;omega)];exact Nat.le_refl _
   obtain⟨q,e1,e2⟩:=Kx (.bin o x y) f p a ts (.inr hw') hn ha hl h
   exact⟨q,0,e2,Nat.zero_le _,fun k=>by rw[e1];rfl⟩
theorem Kx:∀(c:Cx) (f:Nat) (p:Pr) (a:Kt) (ts:List Kt),c.wf→c.nm→Si a→c.lv≤1→Rdx f p c a ts→∃q,CN (unF f) p=(c.v,q)∧Afx p q a ts:=by
 intro c f p a ts hw hn ha hl h
 obtain⟨q,j,e1,e2,e3⟩:=X5 c f p a ts hw hn hl h
 have h1:=h.s.lenN
 simp only[length_append,length_cons]at h1
 refine⟨q,?_,e1⟩
 unfold CN
 have h2:=e3 (p.l.length-j)
 rw[show p.l.length-j+j=p.l.length by omega]at h2
 rw[h2,kE e1.s ha]
theorem fc:∀(c:Cx) (f:Nat) (p:Pr) (a:Kt) (ts:List Kt),c.wf→c.nm→FW a→Rdx f p c a ts→∃q,EO (unF f) p=(c.v,q)∧Afx p q a ts:=by
 intro c f p a ts hw hn ha h
 obtain⟨q,j,e1,e2,e3⟩:=ZZ c f p a ts hw hn ha.mul h
 have h1:=h.s.lenN
 simp only[length_append,length_cons]at h1
 refine⟨q,?_,e1⟩
 unfold EO
 have h2:=e3 (p.l.length-j)
 rw[show p.l.length-j+j=p.l.length by omega]at h2
 rw[h2,qh e1.s ha]
end
theorem GX {c:Cx} {p:Pr} {a:Kt} {ts:List Kt} (hw:c.wf) (hn:c.nm) (ha:FW a) (h:Sfx p (c.tk++a::ts)) (hd:(c.dp:Int)+p.deep≤40):∃q,exS p=(c.v,q)∧Afx p q a ts:=
 fc c 41 p a ts hw hn ha ⟨h,hd,by have:=h.ok.2.2.2.1;omega⟩
end Go.Proofs.YtbiepiggmagfcaaGreatDoor
