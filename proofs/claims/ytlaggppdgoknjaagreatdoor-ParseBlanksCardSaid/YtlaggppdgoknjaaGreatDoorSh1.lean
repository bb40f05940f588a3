/- Tokens of a text that is put together. No conditions but those in each statement. -/
import Derived.Test.YtlaggppdgoknjaaGreatDoorCm1
import Derived.Test.YtlaggppdgoknjaaGreatDoorSo
set_option linter.unusedVariables false
set_option linter.unusedSimpArgs false
namespace Go.Proofs.YtlaggppdgoknjaaGreatDoor
open Go Go.Sy Go.RowKit
def rxG:Nat→Nat→List UInt8→List Tok→List Tok×Int×Int
 |0,_,_,out=>(out,0,0)
 |_+1,_,[],out=>(out,0,0)
 |f+1,i,c::r,out=>
  if blB (c.toNat:Int)=true then rxG f (i+1) r out
  else if ((c.toNat:Int)==35)=true then rxG f (i+spanN nlB (c::r)) ((c::r).drop (spanN nlB (c::r))) out
  else if letB (c.toNat:Int)=true then (if decide (32<((spanN idB (c::r):Nat):Int))=true then ([],(i:Int),53) else rxG f (i+spanN idB (c::r)) ((c::r).drop (spanN idB (c::r))) (out++[⟨0,(c::r).take (spanN idB (c::r)),(i:Int)⟩]))
  else if digB (c.toNat:Int)=true then
   (
    if greB (c::r)=true then ([],(i:Int),53)
    else if (decide (0<((c::r).drop (spanN digB (c::r))).length)&&letB ((((c::r).drop (spanN digB (c::r))).getD 0 0).toNat:Int)||((c.toNat:Int)==48&&decide (1<((spanN digB (c::r):Nat):Int))))=true then ([],(i:Int),50)
    else rxG f (i+spanN digB (c::r)) ((c::r).drop (spanN digB (c::r))) (out++[⟨1,(c::r).take (spanN digB (c::r)),(i:Int)⟩]))
  else if (decide (2≤(c::r).length)&&((c::r).take 2==[61,61]||(c::r).take 2==[33,61]||(c::r).take 2==[60,61]||(c::r).take 2==[62,61]||(c::r).take 2==[38,38]||(c::r).take 2==[124,124]))=true then rxG f (i+2) ((c::r).drop 2) (out++[⟨2,(c::r).take 2,(i:Int)⟩])
  else if oneB signs (c.toNat:Int)=true then rxG f (i+1) r (out++[⟨2,(c::r).take 1,(i:Int)⟩])
  else ([],(i:Int),50)
theorem getD_drop (s:List UInt8) (i k:Nat):(s.drop i).getD k 0=s.getD (i+k) 0:=by simp[List.getD,List.getElem?_drop]
theorem rxF_G (s:List UInt8):∀(f i:Nat) (out:List Tok),i≤s.length→rxF s f i out=rxG f i (s.drop i) out
 |0,i,out,_=>by cases s.drop i<;>rfl
 |f+1,i,out,hi=>by
  by_cases hlt:i<s.length
  ·have hd:s.drop i=s.getD i 0::s.drop (i+1):=by
    rw[List.drop_eq_getElem_cons hlt];simp[List.getD,hlt]
   have hlen:(s.drop i).length=s.length-i:=by simp
   have dd:∀k,(s.drop i).drop k=s.drop (i+k):=fun k=>by rw[List.drop_drop]
   have sp:=fun p=>spanN_le p (s.drop i)
   rw[hlen]at sp
   simp only[rxF]
   rw[if_neg (Nat.not_le.2 hlt)]
   have hG:rxG (f+1) i (s.drop i) out=rxG (f+1) i (s.getD i 0::s.drop (i+1)) out:=by rw[hd]
   rw[hG]
   simp only[rxG,← hd,dd]
   have hc:chI s i=((s.getD i 0).toNat:Int):=rfl
   rw[hc]
   have r1:∀out,rxF s f (i+1) out=rxG f (i+1) (s.drop (i+1)) out:=fun out=>rxF_G s f _ out hlt
   have rS:∀p out,rxF s f (i+spanN p (s.drop i)) out=rxG f (i+spanN p (s.drop i)) (s.drop (i+spanN p (s.drop i))) out:=fun p out=>rxF_G s f _ out (by have:=sp p;omega)
   have e1:decide (((i+spanN digB (s.drop i):Nat):Int)<(s.length:Int))=decide (0<(s.drop (i+spanN digB (s.drop i))).length):=by
    rw[decide_eq_decide,List.length_drop];omega
   have e2:chI s (i+spanN digB (s.drop i))=(((s.drop (i+spanN digB (s.drop i))).getD 0 0).toNat:Int):=by
    rw[getD_drop];rfl
   have e3:twoB s i=(decide (2≤(s.drop i).length)&&((s.drop i).take 2==[61,61]||(s.drop i).take 2==[33,61]||(s.drop i).take 2==[60,61]||(s.drop i).take 2==[62,61]||(s.drop i).take 2==[38,38]||(s.drop i).take 2==[124,124])):=by
    unfold twoB
    rw[show decide (((i+2:Nat):Int)≤(s.length:Int))=decide (2≤(s.drop i).length) by rw[decide_eq_decide,hlen];omega]
   rw[e1,e2,e3]
   split
   ·exact r1 _
   split
   ·exact rS _ _
   split
   ·split
    ·rfl
    ·exact rS _ _
   split
   ·split
    ·rfl
    split
    ·rfl
    ·exact rS _ _
   split
   ·rename_i h
    have h2:i+2≤s.length:=by
     simp only[Bool.and_eq_true,decide_eq_true_eq,hlen]at h;omega
    exact rxF_G s f _ _ h2
   split
   ·exact r1 _
   ·rfl
  ·have he:i=s.length:=by omega
   subst he
   simp only[rxF]
   rw[if_pos (Nat.le_refl _),List.drop_length]
   rfl
def kt (t:Tok):Int×List UInt8:=(t.k,t.t)
def Lx (p:List UInt8) (n:Nat) (ts:List (Int×List UInt8)):Prop:=
 ∀(f i:Nat) (r:List UInt8) (out:List Tok),∃o2,o2.map kt=ts∧rxG (f+n) i (p++r) out=rxG f (i+p.length) r (out++o2)
theorem Lx.app {p q:List UInt8} {n m:Nat} {ts us:List (Int×List UInt8)} (h:Lx p n ts) (k:Lx q m us):Lx (p++q) (n+m) (ts++us):=by
 intro f i r out
 obtain⟨o1,a1,a2⟩:=h (f+m) i (q++r) out
 obtain⟨o2,b1,b2⟩:=k f (i+p.length) r (out++o1)
 refine⟨o1++o2,by rw[List.map_append,a1,b1],?_⟩
 rw[List.append_assoc,show f+(n+m)=f+m+n by omega,a2,b2,List.length_append,Nat.add_assoc,List.append_assoc]
theorem Lx.nil:Lx [] 0 []:=fun f i r out=>⟨[],rfl,by simp⟩
theorem foldl_app (o2 out:List Tok):o2.foldl (fun o t=>o++[t]) out=out++o2:=by
 induction o2 generalizing out with
 |nil=>simp
 |cons a l ih=>rw[List.foldl_cons,ih,List.append_assoc];rfl
end Go.Proofs.YtlaggppdgoknjaaGreatDoor
namespace Go.Proofs.YtlaggppdgoknjaaGreatDoor
open Go Go.Sy Go.RowKit
abbrev Kt:=Int×List UInt8
structure Sfx (p:Pr) (ts:List Kt):Prop where
 ok:okP p
 e:p.e=0
 t:(p.l.drop p.i.toNat).map kt=ts
section
variable {p:Pr} {k:Int} {t:List UInt8} {ts:List Kt}
theorem Sfx.lt (h:Sfx p ((k,t)::ts)):p.i<(p.l.length:Int):=by
 have:=congrArg List.length h.t
 simp only[List.length_map,List.length_drop,List.length_cons]at this
 have:=h.ok.1
 omega
theorem Sfx.hd (h:Sfx p ((k,t)::ts)):(tk p).k=k∧(tk p).t=t:=by
 have hlt:=h.lt
 have h0:=h.ok.1
 have hi:p.i.toNat<p.l.length:=by omega
 have e:=h.t
 rw[List.drop_eq_getElem_cons hi,List.map_cons]at e
 have e1:=(List.cons.inj e).1
 have e2:tk p=p.l[p.i.toNat]:=by simp[tk,List.getD,hi]
 rw[e2]
 exact⟨congrArg Prod.fst e1,congrArg Prod.snd e1⟩
theorem Sfx.adv (h:Sfx p ((k,t)::ts)):Sfx (adv p) ts:=by
 have hlt:=h.lt
 have h0:=h.ok.1
 have hi:p.i.toNat<p.l.length:=by omega
 refine⟨(adv_nx h.ok hlt h.e).ok,h.e,?_⟩
 have e:=h.t
 rw[List.drop_eq_getElem_cons hi,List.map_cons]at e
 have ei:(Go.Proofs.YtlaggppdgoknjaaGreatDoor.adv p).i.toNat=p.i.toNat+1:=by rw[adv_i h.ok hlt];omega
 show (p.l.drop (Go.Proofs.YtlaggppdgoknjaaGreatDoor.adv p).i.toNat).map kt=ts
 rw[ei]
 exact(List.cons.inj e).2
theorem Sfx.isT (h:Sfx p ((k,t)::ts)) (u:List UInt8):isT u p=(k != 1&&t==u):=by
 obtain⟨h1,h2⟩:=h.hd
 have h3:=h.lt
 have h4:=h.e
 unfold Go.Proofs.YtlaggppdgoknjaaGreatDoor.isT
 rw[h1,h2,h4]
 simp[h3]
theorem Sfx.nameB (h:Sfx p ((k,t)::ts)):nameB p=(k==0&&!wordB t):=by
 obtain⟨h1,h2⟩:=h.hd
 have h3:=h.lt
 have h4:=h.e
 unfold Go.Proofs.YtlaggppdgoknjaaGreatDoor.nameB
 rw[h1,h2,h4]
 simp[h3]
theorem Sfx.outB (h:Sfx p ((k,t)::ts)):outB p=false:=by
 have h3:=h.lt
 unfold Go.Proofs.YtlaggppdgoknjaaGreatDoor.outB
 rw[h.e]
 simp;omega
theorem Sfx.wan (h:Sfx p ((k,t)::ts)) (hk:(k != 1)=true):wanP t p=Go.Proofs.YtlaggppdgoknjaaGreatDoor.adv p:=by
 unfold wanP
 rw[if_pos (by rw[h.isT,hk];simp)]
theorem Sfx.nam (h:Sfx p ((0,t)::ts)) (hw:wordB t=false):namP p=Go.Proofs.YtlaggppdgoknjaaGreatDoor.adv p:=by
 unfold namP
 rw[if_pos (by rw[h.nameB,hw];rfl)]
theorem Sfx.nil (h:Sfx p []):p.i=(p.l.length:Int):=by
 have:=congrArg List.length h.t
 simp only[List.length_map,List.length_drop,List.length_nil]at this
 have:=h.ok.1
 have:=h.ok.2.1
 omega
theorem Sfx.len (h:Sfx p ts):(ts.length:Int)=(p.l.length:Int)-p.i:=by
 have:=congrArg List.length h.t
 simp only[List.length_map,List.length_drop]at this
 have:=h.ok.1
 have:=h.ok.2.1
 omega
end
def noOp (a:Kt):Prop:=∀u∈([[42],[47],[37],[45],[43]]:List (List UInt8)),(a.1 != 1&&a.2==u)=false
theorem sumL_no {u:Pr→R Ex} {p:Pr} {a:Kt} {ts:List Kt} (h:Sfx p (a::ts)) (ho:noOp a) (e:Ex):∀k,sumL u k e p=(e,p)
 |0=>rfl
 |k+1=>by
  simp only[sumL]
  rw[if_pos (by rw[h.e];rfl),if_neg (by rw[h.isT,ho [45] (by decide)];decide),if_neg (by rw[h.isT,ho [43] (by decide)];decide)]
theorem nxt_s {p:Pr} {ts:List Kt} (h:Sfx p ts):Sfx (nxt p) ts:=⟨h.ok,h.e,h.t⟩
theorem opn_s {p:Pr} {ts:List Kt} (h:Sfx p ts) (hd:p.deep<40):opnB p=true∧Sfx (opnP p) ts∧(opnP p).deep=p.deep+1:=by
 have hb:opnB p=true:=by unfold opnB;rw[h.e];simp;omega
 obtain⟨_,_,h3⟩:=opn_e h.ok hb
 exact⟨hb,⟨opn_ok h.ok hb,by rw[h3];exact h.e,by rw[h3];exact h.t⟩,by rw[h3]⟩
theorem fail_no {p:Pr} (hn:p.n<200):¬(knoB p&&decide (200≤p.n))=true:=by
 have:decide (200≤p.n)=false:=by simp;omega
 rw[this];simp
theorem stL_step {st:Pr→R Sm} {p:Pr} {a:Kt} {ts:List Kt} (h:Sfx p (a::ts)) (ha:(a.1 != 1&&a.2==[125])=false) (k:Nat) (acc:List Sm):stmtsL st (k+1) acc p=stmtsL st k (acc++[(st p).1]) (st p).2:=by
 have hlt:=h.lt
 simp only[stmtsL]
 rw[if_pos (by rw[h.e];rfl),if_neg (by rw[h.isT,ha];decide),if_neg (by simp;omega)]
theorem stL_end {st:Pr→R Sm} {p:Pr} {ts:List Kt} (h:Sfx p ((2,[125])::ts)) (k:Nat) (acc:List Sm):stmtsL st (k+1) acc p=(acc,adv p):=by
 simp only[stmtsL]
 rw[if_pos (by rw[h.e];rfl),if_pos (by rw[h.isT];rfl)]
end Go.Proofs.YtlaggppdgoknjaaGreatDoor
namespace Go.Proofs.YtlaggppdgoknjaaGreatDoor
open Go Go.Sy Go.RowKit
inductive Cx where
 |num (d:List UInt8)
 |var (s:List UInt8)
 |neg (u:Cx)
 |par (u:Cx)
 |bin (o:Int) (a b:Cx)
def opK (o:Int):List UInt8:=if o=2 then [43] else if o=3 then [45] else if o=4 then [42] else if o=5 then [47] else [37]
def Cx.tk:Cx→List Kt
 | .num d=>[(1,d)]
 | .var s=>[(0,s)]
 | .neg u=>(2,[45])::u.tk
 | .par u=>(2,[40])::(u.tk++[(2,[41])])
 | .bin o a b=>a.tk++(2,opK o)::b.tk
def Cx.v:Cx→Ex
 | .num d=>.mk 0 (numW d 0) [] .nil .nil
 | .var s=>.mk 1 0 s .nil .nil
 | .neg u=>.mk 7 0 [] u.v .nil
 | .par u=>u.v
 | .bin o a b=>.mk o 0 [] a.v b.v
def Cx.dp:Cx→Nat
 | .num _=>0
 | .var _=>0
 | .neg u=>u.dp+1
 | .par u=>u.dp+1
 | .bin _ a b=>max a.dp b.dp
def Cx.lv:Cx→Nat
 | .bin o _ _=>if o≤3 then 2 else 1
 |_=>0
def Cx.wf:Cx→Prop
 | .num _=>True
 | .var s=>wordB s=false
 | .neg u=>u.lv=0∧u.wf
 | .par u=>u.wf
 | .bin o a b=>((o=2∨o=3)∧b.lv≤1∧a.wf∧b.wf)∨((o=4∨o=5∨o=6)∧a.lv≤1∧b.lv=0∧a.wf∧b.wf)
def noMul (a:Kt):Prop:=∀u∈([[42],[47],[37]]:List (List UInt8)),(a.1 != 1&&a.2==u)=false
theorem noOp.mul {a:Kt} (h:noOp a):noMul a:=fun u hu=>h u (by
 simp only[List.mem_cons,List.not_mem_nil,or_false]at hu ⊢
 rcases hu with rfl|rfl|rfl<;>simp)
theorem prodL_nm {u:Pr→R Ex} {p:Pr} {a:Kt} {ts:List Kt} (h:Sfx p (a::ts)) (ho:noMul a) (e:Ex):∀k,prodL u k e p=(e,p)
 |0=>rfl
 |k+1=>by
  simp only[prodL]
  rw[if_pos (by rw[h.e];rfl),if_neg (by rw[h.isT,ho [42] (by decide)];decide),if_neg (by rw[h.isT,ho [47] (by decide)];decide),if_neg (by rw[h.isT,ho [37] (by decide)];decide)]
theorem Sfx.lenN {p:Pr} {ts:List Kt} (h:Sfx p ts):ts.length≤p.l.length:=by
 have:=h.len
 have:=h.ok.1
 omega
structure Rdx (f:Nat) (p:Pr) (c:Cx) (a:Kt) (ts:List Kt):Prop where
 s:Sfx p (c.tk++a::ts)
 d:(c.dp:Int)+p.deep≤40
 f:41≤p.deep+(f:Int)
structure Afx (p q:Pr) (a:Kt) (ts:List Kt):Prop where
 s:Sfx q (a::ts)
 d:q.deep=p.deep
 l:q.l=p.l
theorem Afx.of {p q:Pr} {a:Kt} {ts:List Kt} (h:Nx p q) (s:Sfx q (a::ts)):Afx p q a ts:=⟨s,h.d,h.l⟩
theorem un_neg {f:Nat} {p:Pr} {ts:List Kt} (h:Sfx p ((2,[45])::ts)) (hb:opnB p=true):unF (f+1) p=(.mk 7 0 [] (unF f (adv (opnP p))).1 .nil,shut (unF f (adv (opnP p))).2):=by
 simp only[unF]
 rw[if_neg (by rw[h.outB];decide),if_pos (by rw[h.isT];decide),if_pos hb]
theorem un_par {f:Nat} {p:Pr} {ts:List Kt} (h:Sfx p ((2,[40])::ts)) (hb:opnB p=true):unF (f+1) p=((sumW (unF f) (adv (opnP p))).1,shut (wanP [41] (sumW (unF f) (adv (opnP p))).2)):=by
 simp only[unF]
 rw[if_neg (by rw[h.outB];decide),if_neg (by rw[h.isT];decide),if_pos (by rw[h.isT];decide),if_pos hb]
theorem un_num {f:Nat} {p:Pr} {d:List UInt8} {ts:List Kt} (h:Sfx p ((1,d)::ts)):unF (f+1) p=(.mk 0 (numW d 0) [] .nil .nil,adv p):=by
 simp only[unF]
 rw[if_neg (by rw[h.outB];decide),if_neg (by rw[h.isT];simp),if_neg (by rw[h.isT];simp),if_pos (by rw[h.hd.1];decide),h.hd.2]
theorem un_var {f:Nat} {p:Pr} {s:List UInt8} {ts:List Kt} (h:Sfx p ((0,s)::ts)) (hw:wordB s=false) (h1:s≠[45]) (h2:s≠[40]):unF (f+1) p=(.mk 1 0 s .nil .nil,adv p):=by
 have hn:nameB p=true:=by rw[h.nameB,hw];rfl
 simp only[unF]
 rw[if_neg (by rw[h.outB];decide),if_neg (by rw[h.isT];simpa using h1),if_neg (by rw[h.isT];simpa using h2),if_neg (by rw[h.hd.1];decide),if_pos hn,h.nam hw]
 unfold namS
 rw[if_pos hn,h.hd.2]
def lh (s:List UInt8):Prop:=∃c r,s=c::r∧letB (c.toNat:Int)=true
def dh (s:List UInt8):Prop:=∃c r,s=c::r∧digB (c.toNat:Int)=true
theorem lh_ne {s:List UInt8} {c:UInt8} {r:List UInt8} (h:lh s) (hc:letB (c.toNat:Int)=false:=by decide):s≠c::r:=by
 rintro rfl
 obtain⟨c',r',e,h⟩:=h
 simp only[List.cons.injEq]at e
 rw[← e.1,hc]at h;cases h
theorem dh_ne {s:List UInt8} {c:UInt8} {r:List UInt8} (h:dh s) (hc:digB (c.toNat:Int)=false:=by decide):s≠c::r:=by
 rintro rfl
 obtain⟨c',r',e,h⟩:=h
 simp only[List.cons.injEq]at e
 rw[← e.1,hc]at h;cases h
def Cx.nm:Cx→Prop
 | .num d=>dh d
 | .var s=>lh s
 | .neg u=>u.nm
 | .par u=>u.nm
 | .bin _ a b=>a.nm∧b.nm
theorem shut_s' {p q:Pr} {a:Kt} {ts:List Kt} (h:okP p) (hb:opnB p=true) (hq:Nx (opnP p) q) (s:Sfx q (a::ts)):Sfx (shut q) (a::ts):=
 ⟨(shut_nx h hb hq).ok,s.e,s.t⟩
theorem noM2 (o:Int) (h:o=2∨o=3):noMul (2,opK o):=by
 intro u hu
 rcases h with rfl|rfl
 ·revert u;decide
 ·revert u;decide
theorem no_par:noOp (2,[41]):=by intro u hu;revert hu;revert u;decide
theorem Rdx.opn {f:Nat} {p:Pr} {t:List UInt8} {ts:List Kt} {d:Nat} (h:Sfx p ((2,t)::ts)) (hd:((d+1:Nat):Int)+p.deep≤40) (hf:41≤p.deep+((f+1:Nat):Int)) :
  opnB p=true∧Sfx (adv (opnP p)) ts∧(d:Int)+(adv (opnP p)).deep≤40∧41≤(adv (opnP p)).deep+(f:Int)∧Nx (opnP p) (adv (opnP p)):=by
 obtain⟨h1,h2,h3⟩:=opn_s h (by omega)
 have h4:(adv (opnP p)).deep=p.deep+1:=h3
 refine⟨h1,h2.adv,by omega,by omega,opn_adv h.ok h1 h.lt⟩
mutual
theorem cx_un:∀(c:Cx) (f:Nat) (p:Pr) (a:Kt) (ts:List Kt),c.wf→c.nm→c.lv=0→Rdx f p c a ts→∃q,unF f p=(c.v,q)∧Afx p q a ts
 | .num d,f,p,a,ts,_,_,_,h=>by
  obtain⟨f,rfl⟩:∃g,f=g+1:=⟨f-1,by have:=h.f;have:=h.s.ok.2.2.2.2.1;omega⟩
  have hs:Sfx p ((1,d)::a::ts):=h.s
  exact⟨adv p,un_num hs,hs.adv,rfl,rfl⟩
 | .var s,f,p,a,ts,hw,hn,_,h=>by
  obtain⟨f,rfl⟩:∃g,f=g+1:=⟨f-1,by have:=h.f;have:=h.s.ok.2.2.2.2.1;omega⟩
  have hs:Sfx p ((0,s)::a::ts):=h.s
  exact⟨adv p,un_var hs hw (lh_ne hn) (lh_ne hn),hs.adv,rfl,rfl⟩
 | .neg u,f,p,a,ts,hw,hn,_,h=>by
  obtain⟨f,rfl⟩:∃g,f=g+1:=⟨f-1,by have:=h.f;have:=h.s.ok.2.2.2.2.1;omega⟩
  have hs:Sfx p ((2,[45])::(u.tk++a::ts)):=h.s
  obtain⟨hb,s1,d1,f1,n1⟩:=Rdx.opn (d:=u.dp) hs h.d h.f
  obtain⟨q,e1,e2⟩:=cx_un u f _ a ts hw.2 hn hw.1 ⟨s1,d1,f1⟩
  have n2:Nx (adv (opnP p)) q:=by have:=un_nx f _ s1.ok;rw[e1]at this;exact this
  refine⟨shut q,by rw[un_neg hs hb,e1];rfl,Afx.of (shut_nx hs.ok hb (n1.trans n2)) (shut_s' hs.ok hb (n1.trans n2) e2.s)⟩
 | .par u,f,p,a,ts,hw,hn,_,h=>by
  obtain⟨f,rfl⟩:∃g,f=g+1:=⟨f-1,by have:=h.f;have:=h.s.ok.2.2.2.2.1;omega⟩
  have hs:Sfx p ((2,[40])::(u.tk++(2,[41])::a::ts)):=by
   have:(Cx.par u).tk++a::ts=(2,[40])::(u.tk++(2,[41])::a::ts):=by simp[Cx.tk]
   rw[← this];exact h.s
  obtain⟨hb,s1,d1,f1,n1⟩:=Rdx.opn (d:=u.dp) hs h.d h.f
  obtain⟨q,e1,e2⟩:=cx_sum u f _ (2,[41]) (a::ts) hw hn no_par ⟨s1,d1,f1⟩
  have n2:Nx (adv (opnP p)) q:=by have:=sumW_nx (un_nx f) _ s1.ok;rw[e1]at this;exact this
  have e3:wanP [41] q=adv q:=e2.s.wan (by decide)
  have n3:=n1.trans (n2.trans (adv_nx e2.s.ok e2.s.lt e2.s.e))
  refine⟨shut (adv q),by rw[un_par hs hb,e1];show (u.v,shut (wanP [41] q))=_;rw[e3];rfl,Afx.of (shut_nx hs.ok hb n3) (shut_s' hs.ok hb n3 e2.s.adv)⟩
 | .bin o x y,f,p,a,ts,hw,hn,hl,h=>by
  simp only[Cx.lv]at hl
  split at hl<;>omega
theorem cx_prodL:∀(c:Cx) (f:Nat) (p:Pr) (a:Kt) (ts:List Kt),c.wf→c.nm→c.lv≤1→Rdx f p c a ts→
  ∃q j,Afx p q a ts∧j≤c.tk.length∧∀k,prodL (unF f) (k+j) (unF f p).1 (unF f p).2=prodL (unF f) k c.v q
 | .num d,f,p,a,ts,hw,hn,hl,h=>by
  obtain⟨q,e1,e2⟩:=cx_un (.num d) f p a ts hw hn rfl h
  exact⟨q,0,e2,Nat.zero_le _,fun k=>by rw[e1];rfl⟩
 | .var s,f,p,a,ts,hw,hn,hl,h=>by
  obtain⟨q,e1,e2⟩:=cx_un (.var s) f p a ts hw hn rfl h
  exact⟨q,0,e2,Nat.zero_le _,fun k=>by rw[e1];rfl⟩
 | .neg u,f,p,a,ts,hw,hn,hl,h=>by
  obtain⟨q,e1,e2⟩:=cx_un (.neg u) f p a ts hw hn rfl h
  exact⟨q,0,e2,Nat.zero_le _,fun k=>by rw[e1];rfl⟩
 | .par u,f,p,a,ts,hw,hn,hl,h=>by
  obtain⟨q,e1,e2⟩:=cx_un (.par u) f p a ts hw hn rfl h
  exact⟨q,0,e2,Nat.zero_le _,fun k=>by rw[e1];rfl⟩
 | .bin o x y,f,p,a,ts,hw,hn,hl,h=>by
  rcases hw with⟨ho,_⟩|⟨ho,x1,y0,wx,wy⟩
  ·simp only[Cx.lv]at hl
   rw[if_pos (by omega)]at hl
   omega
  have ht:(Cx.bin o x y).tk++a::ts=x.tk++(2,opK o)::(y.tk++a::ts):=by simp[Cx.tk]
  have hs:Sfx p (x.tk++(2,opK o)::(y.tk++a::ts)):=by rw[← ht];exact h.s
  have hd:=h.d
  simp only[Cx.dp]at hd
  obtain⟨q1,j,e1,e2,e3⟩:=cx_prodL x f p (2,opK o) (y.tk++a::ts) wx hn.1 x1 ⟨hs,by omega,h.f⟩
  obtain⟨q2,g1,g2⟩:=cx_un y f (adv q1) a ts wy hn.2 y0 ⟨e1.s.adv,by show _+q1.deep≤40;rw[e1.d];omega,by show 41≤q1.deep+_;rw[e1.d];exact h.f⟩
  refine⟨q2,j+1,⟨g2.s,g2.d.trans e1.d,g2.l.trans e1.l⟩,by simp only[Cx.tk,List.length_append,List.length_cons];omega,fun k=>?_⟩
  rw[show k+(j+1)=(k+1)+j by omega,e3]
  simp only[prodL]
  rw[if_pos (by rw[e1.s.e];rfl)]
  rcases ho with rfl|rfl|rfl
  ·rw[if_pos (by rw[e1.s.isT];decide),g1];rfl
  ·rw[if_neg (by rw[e1.s.isT];decide),if_pos (by rw[e1.s.isT];decide),g1];rfl
  ·rw[if_neg (by rw[e1.s.isT];decide),if_neg (by rw[e1.s.isT];decide),if_pos (by rw[e1.s.isT];decide),g1];rfl
theorem cx_sumL:∀(c:Cx) (f:Nat) (p:Pr) (a:Kt) (ts:List Kt),c.wf→c.nm→noMul a→Rdx f p c a ts→
  ∃q j,Afx p q a ts∧j≤c.tk.length∧∀k,sumL (unF f) (k+j) (prodW (unF f) p).1 (prodW (unF f) p).2=sumL (unF f) k c.v q
 | .num d,f,p,a,ts,hw,hn,ha,h=>by
  obtain⟨q,e1,e2⟩:=cx_prod (.num d) f p a ts hw hn ha (Nat.zero_le _) h
  exact⟨q,0,e2,Nat.zero_le _,fun k=>by rw[e1];rfl⟩
 | .var s,f,p,a,ts,hw,hn,ha,h=>by
  obtain⟨q,e1,e2⟩:=cx_prod (.var s) f p a ts hw hn ha (Nat.zero_le _) h
  exact⟨q,0,e2,Nat.zero_le _,fun k=>by rw[e1];rfl⟩
 | .neg u,f,p,a,ts,hw,hn,ha,h=>by
  obtain⟨q,e1,e2⟩:=cx_prod (.neg u) f p a ts hw hn ha (Nat.zero_le _) h
  exact⟨q,0,e2,Nat.zero_le _,fun k=>by rw[e1];rfl⟩
 | .par u,f,p,a,ts,hw,hn,ha,h=>by
  obtain⟨q,e1,e2⟩:=cx_prod (.par u) f p a ts hw hn ha (Nat.zero_le _) h
  exact⟨q,0,e2,Nat.zero_le _,fun k=>by rw[e1];rfl⟩
 | .bin o x y,f,p,a,ts,hw,hn,ha,h=>by
  rcases hw with⟨ho,y1,wx,wy⟩|hw'
  ·have ht:(Cx.bin o x y).tk++a::ts=x.tk++(2,opK o)::(y.tk++a::ts):=by simp[Cx.tk]
   have hs:Sfx p (x.tk++(2,opK o)::(y.tk++a::ts)):=by rw[← ht];exact h.s
   have hd:=h.d
   simp only[Cx.dp]at hd
   obtain⟨q1,j,e1,e2,e3⟩:=cx_sumL x f p (2,opK o) (y.tk++a::ts) wx hn.1 (noM2 o ho) ⟨hs,by omega,h.f⟩
   obtain⟨q2,g1,g2⟩:=cx_prod y f (adv q1) a ts wy hn.2 ha y1 ⟨e1.s.adv,by show _+q1.deep≤40;rw[e1.d];omega,by show 41≤q1.deep+_;rw[e1.d];exact h.f⟩
   refine⟨q2,j+1,⟨g2.s,g2.d.trans e1.d,g2.l.trans e1.l⟩,by simp only[Cx.tk,List.length_append,List.length_cons];omega,fun k=>?_⟩
   rw[show k+(j+1)=(k+1)+j by omega,e3]
   simp only[sumL]
   rw[if_pos (by rw[e1.s.e];rfl)]
   rcases ho with rfl|rfl
   ·rw[if_neg (by rw[e1.s.isT];decide),if_pos (by rw[e1.s.isT];decide),g1];rfl
   ·rw[if_pos (by rw[e1.s.isT];decide),g1];rfl
  ·have hl:(Cx.bin o x y).lv≤1:=by simp only[Cx.lv];rw[if_neg (by have:=hw'.1;omega)];exact Nat.le_refl _
   obtain⟨q,e1,e2⟩:=cx_prod (.bin o x y) f p a ts (.inr hw') hn ha hl h
   exact⟨q,0,e2,Nat.zero_le _,fun k=>by rw[e1];rfl⟩
theorem cx_prod:∀(c:Cx) (f:Nat) (p:Pr) (a:Kt) (ts:List Kt),c.wf→c.nm→noMul a→c.lv≤1→Rdx f p c a ts→∃q,prodW (unF f) p=(c.v,q)∧Afx p q a ts:=by
 intro c f p a ts hw hn ha hl h
 obtain⟨q,j,e1,e2,e3⟩:=cx_prodL c f p a ts hw hn hl h
 have h1:=h.s.lenN
 simp only[List.length_append,List.length_cons]at h1
 refine⟨q,?_,e1⟩
 unfold prodW
 have h2:=e3 (p.l.length-j)
 rw[show p.l.length-j+j=p.l.length by omega]at h2
 rw[h2,prodL_nm e1.s ha]
theorem cx_sum:∀(c:Cx) (f:Nat) (p:Pr) (a:Kt) (ts:List Kt),c.wf→c.nm→noOp a→Rdx f p c a ts→∃q,sumW (unF f) p=(c.v,q)∧Afx p q a ts:=by
 intro c f p a ts hw hn ha h
 obtain⟨q,j,e1,e2,e3⟩:=cx_sumL c f p a ts hw hn ha.mul h
 have h1:=h.s.lenN
 simp only[List.length_append,List.length_cons]at h1
 refine⟨q,?_,e1⟩
 unfold sumW
 have h2:=e3 (p.l.length-j)
 rw[show p.l.length-j+j=p.l.length by omega]at h2
 rw[h2,sumL_no e1.s ha]
end
theorem cx_exS {c:Cx} {p:Pr} {a:Kt} {ts:List Kt} (hw:c.wf) (hn:c.nm) (ha:noOp a) (h:Sfx p (c.tk++a::ts)) (hd:(c.dp:Int)+p.deep≤40):∃q,exS p=(c.v,q)∧Afx p q a ts:=
 cx_sum c 41 p a ts hw hn ha ⟨h,hd,by have:=h.ok.2.2.2.1;omega⟩
end Go.Proofs.YtlaggppdgoknjaaGreatDoor
