/- Functions, in plain words. No conditions but those in each statement. -/
import Derived.Test.YtbiepiggmagfcaaDoorPa8
import Derived.Test.YtbiepiggmagfcaaDoorSh1
set_option linter.unusedVariables false
set_option linter.unusedSimpArgs false
namespace Go.Proofs.YtbiepiggmagfcaaDoor
open Go Go.Sy Go.RowKit
def morB (l:List Vr) (most:Int) (p:Pr):Bool:=nameB p&&decide (most≤(l.length:Int))
def morL (l:List Vr) (ptr:Bool) (most:Int) (p:Pr):List Vr:=if morB l most p=true then l else l++[⟨namS p,ptr⟩]
def morP (l:List Vr) (most:Int) (p:Pr):Pr:=if morB l most p=true then failP 53 p else namP p
theorem mor_nx {l:List Vr} {most:Int} {p:Pr} (h:okP p):Nx p (morP l most p):=by
 unfold morP;split
 ·exact fail_nx 53 h
 ·exact nam_nx h
theorem morL_len (l:List Vr) (ptr:Bool) (most:Int) (p:Pr):(morL l ptr most p).length≤l.length+1:=by unfold morL;split<;>simp
def parL:Nat→List Vr→Pr→R (List Vr)
 |0,l,p=>(l,p)
 |k+1,l,p=>
  if (p.e==0)=true then
   (if isT [41] (morP l 6 (takP [42] p))=true then (morL l (isT [42] p) 6 (takP [42] p),adv (morP l 6 (takP [42] p)))
    else parL k (morL l (isT [42] p) 6 (takP [42] p)) (wanP [44] (morP l 6 (takP [42] p))))
  else (l,p)
def parW (p:Pr):R (List Vr):=if isT [41] p=true then ([],adv p) else parL (p.l.length+1) [] p
def locB (p:Pr):Bool:=isT tVar p||isT tPtr p
def locL:Nat→List Vr→Pr→R (List Vr)
 |0,l,p=>(l,p)
 |k+1,l,p=>
  if locB p=true then locL k (morL l (isT tPtr p) 20 (adv p)) (wanP [59] (morP l 20 (adv p)))
  else (l,p)
def locW (p:Pr):R (List Vr):=locL p.l.length [] p
def opeP (p:Pr):Pr:=if isT [123] p=true then (if opnB p=true then adv (opnP p) else failP 51 (opnP p)) else failP 51 p
def endP (p:Pr):Pr:=if (p.e==0&&decide (p.i<(p.l.length:Int)))=true then failP 51 p else p
def p0 (l:List Tok) (n:Int):Pr:=⟨l,0,n,0,0,0,0⟩
def hdP (l:List Tok) (n:Int):Pr:=wanP tFn (p0 l n)
def hd2 (l:List Tok) (n:Int):Pr:=wanP [40] (namP (hdP l n))
def fp3 (l:List Tok) (n:Int):R (List Vr):=parW (hd2 l n)
def fp4 (l:List Tok) (n:Int):R (List Vr):=locW (opeP (fp3 l n).2)
def fp5 (l:List Tok) (n:Int):R (List Sm):=bodS (fp4 l n).2
def fp6 (l:List Tok) (n:Int):Pr:=endP (fp5 l n).2
def funF (s:List UInt8):Fn×Int×Int:=
 if (rxT s).2.2 != 0 then (fn0,(rxT s).2.1,(rxT s).2.2)
 else if (fp6 (rxT s).1 (s.length:Int)).e != 0 then (fn0,(fp6 (rxT s).1 (s.length:Int)).at',(fp6 (rxT s).1 (s.length:Int)).e)
 else (⟨namS (hdP (rxT s).1 (s.length:Int)),(fp3 (rxT s).1 (s.length:Int)).1,(fp4 (rxT s).1 (s.length:Int)).1,(fp5 (rxT s).1 (s.length:Int)).1⟩,0,0)
theorem rxF_ok (s:List UInt8) (hs:s.length≤4096):∀(f i:Nat) (out:List Tok),i≤s.length→out.length≤i→(∀x∈out,x.t.length≤4096)→(rxF s f i out).1.length≤4096∧∀x∈(rxF s f i out).1,x.t.length≤4096
 |0,i,out,hi,ho,hx=>⟨by show out.length≤4096;omega,hx⟩
 |f+1,i,out,hi,ho,hx=>by
  have hnil:([]:List Tok).length≤4096∧∀x∈([]:List Tok),x.t.length≤4096:=⟨by simp,by simp⟩
  have hsn:∀(k n:Nat) (kd:Int),0<n→i+n≤s.length→(rxF s f (i+n) (out++[⟨kd,(s.drop i).take k,(i:Int)⟩])).1.length≤4096∧∀x∈(rxF s f (i+n) (out++[⟨kd,(s.drop i).take k,(i:Int)⟩])).1,x.t.length≤4096:=by
   intro k n kd hn hin
   refine rxF_ok s hs f (i+n) _ hin (by simp;omega) ?_
   intro x hxm
   rcases List.mem_append.1 hxm with h|h
   ·exact hx x h
   ·simp only[List.mem_singleton]at h;subst h;simp only[List.length_take,List.length_drop];omega
  simp only[rxF]
  split
  ·exact⟨by show out.length≤4096;omega,hx⟩
  ·rename_i hlt
   have hlt:i<s.length:=by omega
   have sp:=fun p=>spanN_le p (s.drop i)
   simp only[List.length_drop]at sp
   split
   ·exact rxF_ok s hs f _ _ (by omega) (by omega) hx
   split
   ·exact rxF_ok s hs f _ _ (by have:=sp nlB;omega) (by omega) hx
   split
   ·rename_i hl
    have h1:=spanN_at idB hlt
    rw[if_pos (show idB _=true by show (letB _||digB _)=true;rw[hl];rfl)]at h1
    split
    ·exact hnil
    ·exact hsn _ _ 0 (by omega) (by have:=sp idB;omega)
   split
   ·rename_i hd
    have h1:=spanN_at digB hlt
    rw[if_pos hd]at h1
    split
    ·exact hnil
    split
    ·exact hnil
    ·exact hsn _ _ 1 (by omega) (by have:=sp digB;omega)
   split
   ·rename_i ht
    unfold twoB at ht
    simp only[Bool.and_eq_true,decide_eq_true_eq]at ht
    exact hsn 2 2 2 (by omega) (by omega)
   split
   ·exact hsn 1 1 2 (by omega) (by omega)
   ·exact hnil
theorem rxT_ok (s:List UInt8):(rxT s).1.length≤4096∧∀x∈(rxT s).1,x.t.length≤4096:=by
 unfold rxT
 split
 ·exact⟨by simp,by simp⟩
 ·rename_i h
  exact rxF_ok s (by simp at h;omega) _ 0 [] (Nat.zero_le _) (Nat.le_refl _) (by simp)
theorem p0_ok (s:List UInt8) (n:Int):okP (p0 (rxT s).1 n):=⟨Int.le_refl _,by show (0:Int)≤_;omega,(rxT_ok s).1,Int.le_refl _,by show (0:Int)≤40;decide,(rxT_ok s).2⟩
theorem hdP_nx (s:List UInt8) (n:Int):Nx (p0 (rxT s).1 n) (hdP (rxT s).1 n):=wan_nx (p0_ok s n)
theorem hd2_nx (s:List UInt8) (n:Int):Nx (p0 (rxT s).1 n) (hd2 (rxT s).1 n):=by
 have h1:=hdP_nx s n
 have h2:=h1.trans (nam_nx h1.ok)
 exact h2.trans (wan_nx h2.ok)
theorem parL_nx:∀(k:Nat) (l:List Vr) (p:Pr),okP p→Nx p (parL k l p).2
 |0,l,p,h=>.refl h
 |k+1,l,p,h=>by
  simp only[parL]
  split
  ·have h1:=tak_nx (t:=[42]) h
   have h2:=h1.trans (mor_nx (l:=l) (most:=6) h1.ok)
   split
   ·rename_i hi;exact h2.trans (isT_adv h2.ok hi)
   ·have h3:=h2.trans (wan_nx (t:=[44]) h2.ok)
    exact h3.trans (parL_nx k _ _ h3.ok)
  ·exact .refl h
theorem parW_nx {p:Pr} (h:okP p):Nx p (parW p).2:=by
 unfold parW;split
 ·rename_i hi;exact isT_adv h hi
 ·exact parL_nx _ _ _ h
theorem locB_e {p:Pr} (h:locB p=true):p.e=0∧p.i<(p.l.length:Int):=by
 unfold locB at h
 simp only[Bool.or_eq_true]at h
 rcases h with h|h<;>exact isT_e h
theorem locL_nx:∀(k:Nat) (l:List Vr) (p:Pr),okP p→Nx p (locL k l p).2
 |0,l,p,h=>.refl h
 |k+1,l,p,h=>by
  simp only[locL]
  split
  ·rename_i hb
   have h1:=adv_nx h (locB_e hb).2 (locB_e hb).1
   have h2:=h1.trans (mor_nx (l:=l) (most:=20) h1.ok)
   have h3:=h2.trans (wan_nx (t:=[59]) h2.ok)
   exact h3.trans (locL_nx k _ _ h3.ok)
  ·exact .refl h
end Go.Proofs.YtbiepiggmagfcaaDoor
namespace Go.Proofs.YtbiepiggmagfcaaDoor
open Go Go.Sy Go.RowKit
abbrev Kt:=Int×List UInt8
structure Sfx (p:Pr) (ts:List Kt):Prop where
 ok:okP p
 e:p.e=0
 t:(p.l.drop p.i.toNat).map kt=ts
section
variable {p:Pr} {k:Int} {t:List UInt8} {ts:List Kt}
theorem Sfx.lt (h:Sfx p ((k,t)::ts)):p.i<(p.l.length:Int):=by
 have:=congrArg List.length h.t
 simp only[List.length_map,List.length_drop,List.length_cons]at this
 have:=h.ok.1
 omega
theorem Sfx.hd (h:Sfx p ((k,t)::ts)):(tk p).k=k∧(tk p).t=t:=by
 have hlt:=h.lt
 have h0:=h.ok.1
 have hi:p.i.toNat<p.l.length:=by omega
 have e:=h.t
 rw[List.drop_eq_getElem_cons hi,List.map_cons]at e
 have e1:=(List.cons.inj e).1
 have e2:tk p=p.l[p.i.toNat]:=by simp[tk,List.getD,hi]
 rw[e2]
 exact⟨congrArg Prod.fst e1,congrArg Prod.snd e1⟩
theorem Sfx.adv (h:Sfx p ((k,t)::ts)):Sfx (adv p) ts:=by
 have hlt:=h.lt
 have h0:=h.ok.1
 have hi:p.i.toNat<p.l.length:=by omega
 refine⟨(adv_nx h.ok hlt h.e).ok,h.e,?_⟩
 have e:=h.t
 rw[List.drop_eq_getElem_cons hi,List.map_cons]at e
 have ei:(Go.Proofs.YtbiepiggmagfcaaDoor.adv p).i.toNat=p.i.toNat+1:=by rw[adv_i h.ok hlt];omega
 show (p.l.drop (Go.Proofs.YtbiepiggmagfcaaDoor.adv p).i.toNat).map kt=ts
 rw[ei]
 exact(List.cons.inj e).2
theorem Sfx.isT (h:Sfx p ((k,t)::ts)) (u:List UInt8):isT u p=(k != 1&&t==u):=by
 obtain⟨h1,h2⟩:=h.hd
 have h3:=h.lt
 have h4:=h.e
 unfold Go.Proofs.YtbiepiggmagfcaaDoor.isT
 rw[h1,h2,h4]
 simp[h3]
theorem Sfx.nameB (h:Sfx p ((k,t)::ts)):nameB p=(k==0&&!wordB t):=by
 obtain⟨h1,h2⟩:=h.hd
 have h3:=h.lt
 have h4:=h.e
 unfold Go.Proofs.YtbiepiggmagfcaaDoor.nameB
 rw[h1,h2,h4]
 simp[h3]
theorem Sfx.outB (h:Sfx p ((k,t)::ts)):outB p=false:=by
 have h3:=h.lt
 unfold Go.Proofs.YtbiepiggmagfcaaDoor.outB
 rw[h.e]
 simp;omega
theorem Sfx.wan (h:Sfx p ((k,t)::ts)) (hk:(k != 1)=true):wanP t p=Go.Proofs.YtbiepiggmagfcaaDoor.adv p:=by
 unfold wanP
 rw[if_pos (by rw[h.isT,hk];simp)]
theorem Sfx.nam (h:Sfx p ((0,t)::ts)) (hw:wordB t=false):namP p=Go.Proofs.YtbiepiggmagfcaaDoor.adv p:=by
 unfold namP
 rw[if_pos (by rw[h.nameB,hw];rfl)]
theorem Sfx.nil (h:Sfx p []):p.i=(p.l.length:Int):=by
 have:=congrArg List.length h.t
 simp only[List.length_map,List.length_drop,List.length_nil]at this
 have:=h.ok.1
 have:=h.ok.2.1
 omega
theorem Sfx.len (h:Sfx p ts):(ts.length:Int)=(p.l.length:Int)-p.i:=by
 have:=congrArg List.length h.t
 simp only[List.length_map,List.length_drop]at this
 have:=h.ok.1
 have:=h.ok.2.1
 omega
end
def noOp (a:Kt):Prop:=∀u∈([[42],[47],[37],[45],[43]]:List (List UInt8)),(a.1 != 1&&a.2==u)=false
theorem sumL_no {u:Pr→R Ex} {p:Pr} {a:Kt} {ts:List Kt} (h:Sfx p (a::ts)) (ho:noOp a) (e:Ex):∀k,sumL u k e p=(e,p)
 |0=>rfl
 |k+1=>by
  simp only[sumL]
  rw[if_pos (by rw[h.e];rfl),if_neg (by rw[h.isT,ho [45] (by decide)];decide),if_neg (by rw[h.isT,ho [43] (by decide)];decide)]
theorem nxt_s {p:Pr} {ts:List Kt} (h:Sfx p ts):Sfx (nxt p) ts:=⟨h.ok,h.e,h.t⟩
theorem opn_s {p:Pr} {ts:List Kt} (h:Sfx p ts) (hd:p.deep<40):opnB p=true∧Sfx (opnP p) ts∧(opnP p).deep=p.deep+1:=by
 have hb:opnB p=true:=by unfold opnB;rw[h.e];simp;omega
 obtain⟨_,_,h3⟩:=opn_e h.ok hb
 exact⟨hb,⟨opn_ok h.ok hb,by rw[h3];exact h.e,by rw[h3];exact h.t⟩,by rw[h3]⟩
theorem fail_no {p:Pr} (hn:p.n<200):¬(knoB p&&decide (200≤p.n))=true:=by
 have:decide (200≤p.n)=false:=by simp;omega
 rw[this];simp
theorem stL_step {st:Pr→R Sm} {p:Pr} {a:Kt} {ts:List Kt} (h:Sfx p (a::ts)) (ha:(a.1 != 1&&a.2==[125])=false) (k:Nat) (acc:List Sm):stmtsL st (k+1) acc p=stmtsL st k (acc++[(st p).1]) (st p).2:=by
 have hlt:=h.lt
 simp only[stmtsL]
 rw[if_pos (by rw[h.e];rfl),if_neg (by rw[h.isT,ha];decide),if_neg (by simp;omega)]
theorem stL_end {st:Pr→R Sm} {p:Pr} {ts:List Kt} (h:Sfx p ((2,[125])::ts)) (k:Nat) (acc:List Sm):stmtsL st (k+1) acc p=(acc,adv p):=by
 simp only[stmtsL]
 rw[if_pos (by rw[h.e];rfl),if_pos (by rw[h.isT];rfl)]
end Go.Proofs.YtbiepiggmagfcaaDoor
