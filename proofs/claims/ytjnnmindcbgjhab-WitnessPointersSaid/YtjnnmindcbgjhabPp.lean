/- Functions, in plain words. No conditions but those in each statement. -/
import Derived.Test.YtjnnmindcbgjhabAt
import Derived.Test.YtjnnmindcbgjhabSy28
set_option linter.unusedVariables false
set_option linter.unusedSimpArgs false
namespace Go.Proofs.Ytjnnmindcbgjhab
open Go Go.Sy Go.RowKit
def morB (l:List Vr) (most:Int) (p:Pr):Bool:=nameB p&&decide (most≤(l.length:Int))
def morL (l:List Vr) (ptr:Bool) (most:Int) (p:Pr):List Vr:=if morB l most p=true then l else l++[⟨namS p,ptr⟩]
def morP (l:List Vr) (most:Int) (p:Pr):Pr:=if morB l most p=true then failP 53 p else namP p
theorem mor_nx {l:List Vr} {most:Int} {p:Pr} (h:okP p):Nx p (morP l most p):=by
 unfold morP;split
 ·exact fail_nx 53 h
 ·exact nam_nx h
theorem morL_len (l:List Vr) (ptr:Bool) (most:Int) (p:Pr):(morL l ptr most p).length≤l.length+1:=by unfold morL;split<;>simp
def parL:Nat→List Vr→Pr→R (List Vr)
 |0,l,p=>(l,p)
 |k+1,l,p=>
  if (p.e==0)=true then
   (
    if isT [41] (morP l 6 (takP [42] p))=true then (morL l (isT [42] p) 6 (takP [42] p),adv (morP l 6 (takP [42] p)))
    else parL k (morL l (isT [42] p) 6 (takP [42] p)) (wanP [44] (morP l 6 (takP [42] p))))
  else (l,p)
def parW (p:Pr):R (List Vr):=if isT [41] p=true then ([],adv p) else parL (p.l.length+1) [] p
def locB (p:Pr):Bool:=isT tVar p||isT tPtr p
def locL:Nat→List Vr→Pr→R (List Vr)
 |0,l,p=>(l,p)
 |k+1,l,p=>
  if locB p=true then locL k (morL l (isT tPtr p) 20 (adv p)) (wanP [59] (morP l 20 (adv p)))
  else (l,p)
def locW (p:Pr):R (List Vr):=locL p.l.length [] p
def opeP (p:Pr):Pr:=if isT [123] p=true then (if opnB p=true then adv (opnP p) else failP 51 (opnP p)) else failP 51 p
def endP (p:Pr):Pr:=if (p.e==0&&decide (p.i<(p.l.length:Int)))=true then failP 51 p else p
def p0 (l:List Tok) (n:Int):Pr:=⟨l,0,n,0,0,0,0⟩
def hdP (l:List Tok) (n:Int):Pr:=wanP tFn (p0 l n)
def hd2 (l:List Tok) (n:Int):Pr:=wanP [40] (namP (hdP l n))
def fp3 (l:List Tok) (n:Int):R (List Vr):=parW (hd2 l n)
def fp4 (l:List Tok) (n:Int):R (List Vr):=locW (opeP (fp3 l n).2)
def fp5 (l:List Tok) (n:Int):R (List Sm):=bodS (fp4 l n).2
def fp6 (l:List Tok) (n:Int):Pr:=endP (fp5 l n).2
def funF (s:List UInt8):Fn×Int×Int:=
 if (rxT s).2.2 != 0 then (fn0,(rxT s).2.1,(rxT s).2.2)
 else if (fp6 (rxT s).1 (s.length:Int)).e != 0 then (fn0,(fp6 (rxT s).1 (s.length:Int)).at',(fp6 (rxT s).1 (s.length:Int)).e)
 else (⟨namS (hdP (rxT s).1 (s.length:Int)),(fp3 (rxT s).1 (s.length:Int)).1,(fp4 (rxT s).1 (s.length:Int)).1,(fp5 (rxT s).1 (s.length:Int)).1⟩,0,0)
theorem rxF_ok (s:List UInt8) (hs:s.length≤4096):∀(f i:Nat) (out:List Tok),i≤s.length→out.length≤i→(∀x∈out,x.t.length≤4096)→(rxF s f i out).1.length≤4096∧∀x∈(rxF s f i out).1,x.t.length≤4096
 |0,i,out,hi,ho,hx=>⟨by show out.length≤4096;omega,hx⟩
 |f+1,i,out,hi,ho,hx=>by
  have hnil:([]:List Tok).length≤4096∧∀x∈([]:List Tok),x.t.length≤4096:=⟨by simp,by simp⟩
  have hsn:∀(k n:Nat) (kd:Int),0<n→i+n≤s.length→(rxF s f (i+n) (out++[⟨kd,(s.drop i).take k,(i:Int)⟩])).1.length≤4096∧∀x∈(rxF s f (i+n) (out++[⟨kd,(s.drop i).take k,(i:Int)⟩])).1,x.t.length≤4096:=by
   intro k n kd hn hin
   refine rxF_ok s hs f (i+n) _ hin (by simp;omega) ?_
   intro x hxm
   rcases List.mem_append.1 hxm with h|h
   ·exact hx x h
   ·simp only[List.mem_singleton]at h;subst h;simp only[List.length_take,List.length_drop];omega
  simp only[rxF]
  split
  ·exact⟨by show out.length≤4096;omega,hx⟩
  ·rename_i hlt
   have hlt:i<s.length:=by omega
   have sp:=fun p=>spanN_le p (s.drop i)
   simp only[List.length_drop]at sp
   split
   ·exact rxF_ok s hs f _ _ (by omega) (by omega) hx
   split
   ·exact rxF_ok s hs f _ _ (by have:=sp nlB;omega) (by omega) hx
   split
   ·rename_i hl
    have h1:=spanN_at idB hlt
    rw[if_pos (show idB _=true by show (letB _||digB _)=true;rw[hl];rfl)]at h1
    split
    ·exact hnil
    ·exact hsn _ _ 0 (by omega) (by have:=sp idB;omega)
   split
   ·rename_i hd
    have h1:=spanN_at digB hlt
    rw[if_pos hd]at h1
    split
    ·exact hnil
    split
    ·exact hnil
    ·exact hsn _ _ 1 (by omega) (by have:=sp digB;omega)
   split
   ·rename_i ht
    unfold twoB at ht
    simp only[Bool.and_eq_true,decide_eq_true_eq]at ht
    exact hsn 2 2 2 (by omega) (by omega)
   split
   ·exact hsn 1 1 2 (by omega) (by omega)
   ·exact hnil
theorem rxT_ok (s:List UInt8):(rxT s).1.length≤4096∧∀x∈(rxT s).1,x.t.length≤4096:=by
 unfold rxT
 split
 ·exact⟨by simp,by simp⟩
 ·rename_i h
  exact rxF_ok s (by simp at h;omega) _ 0 [] (Nat.zero_le _) (Nat.le_refl _) (by simp)
theorem p0_ok (s:List UInt8) (n:Int):okP (p0 (rxT s).1 n):=⟨Int.le_refl _,by show (0:Int)≤_;omega,(rxT_ok s).1,Int.le_refl _,by show (0:Int)≤40;decide,(rxT_ok s).2⟩
theorem hdP_nx (s:List UInt8) (n:Int):Nx (p0 (rxT s).1 n) (hdP (rxT s).1 n):=wan_nx (p0_ok s n)
theorem hd2_nx (s:List UInt8) (n:Int):Nx (p0 (rxT s).1 n) (hd2 (rxT s).1 n):=by
 have h1:=hdP_nx s n
 have h2:=h1.trans (nam_nx h1.ok)
 exact h2.trans (wan_nx h2.ok)
theorem parL_nx:∀(k:Nat) (l:List Vr) (p:Pr),okP p→Nx p (parL k l p).2
 |0,l,p,h=>.refl h
 |k+1,l,p,h=>by
  simp only[parL]
  split
  ·have h1:=tak_nx (t:=[42]) h
   have h2:=h1.trans (mor_nx (l:=l) (most:=6) h1.ok)
   split
   ·rename_i hi;exact h2.trans (isT_adv h2.ok hi)
   ·have h3:=h2.trans (wan_nx (t:=[44]) h2.ok)
    exact h3.trans (parL_nx k _ _ h3.ok)
  ·exact .refl h
theorem parW_nx {p:Pr} (h:okP p):Nx p (parW p).2:=by
 unfold parW;split
 ·rename_i hi;exact isT_adv h hi
 ·exact parL_nx _ _ _ h
theorem locB_e {p:Pr} (h:locB p=true):p.e=0∧p.i<(p.l.length:Int):=by
 unfold locB at h
 simp only[Bool.or_eq_true]at h
 rcases h with h|h<;>exact isT_e h
theorem locL_nx:∀(k:Nat) (l:List Vr) (p:Pr),okP p→Nx p (locL k l p).2
 |0,l,p,h=>.refl h
 |k+1,l,p,h=>by
  simp only[locL]
  split
  ·rename_i hb
   have h1:=adv_nx h (locB_e hb).2 (locB_e hb).1
   have h2:=h1.trans (mor_nx (l:=l) (most:=20) h1.ok)
   have h3:=h2.trans (wan_nx (t:=[59]) h2.ok)
   exact h3.trans (locL_nx k _ _ h3.ok)
  ·exact .refl h
end Go.Proofs.Ytjnnmindcbgjhab
namespace Go.Sy
open Go Go.RowKit
section
variable {P:Program} {X:Ctx} {w0:World} {n:Nat}
theorem tri_mono {c:Code} {s:St} {Q Q':Exit→St→Prop} (h:Tri (P:=P) X w0 n c s Q) (hq:∀e s,Q e s→Q' e s):Tri (P:=P) X w0 n c s Q':=by
 intro a w hs
 refine Code.wp_mono ?_ (h a w hs)
 rintro e a' w' (⟨s',h1,h2⟩|h)
 ·exact .inl ⟨s',hq e s' h1,h2⟩
 ·exact .inr h
theorem tri_seq {a b:Code} {s:St} {Q:Exit→St→Prop} (h:Tri (P:=P) X w0 n a s (thenQ (fun s'=>Tri (P:=P) X w0 n b s' Q) Q)):Tri (P:=P) X w0 n (.seq a b) s Q:=by
 intro act w hs
 refine wp_seq ?_
 refine Code.wp_mono ?_ (h act w hs)
 rintro e a' w' (⟨s',hq,hs'⟩|⟨ch,rfl,h⟩)
 ·cases e with
  |normal=>exact hq a' w' hs'
  |_=>exact .inl ⟨s',hq,hs'⟩
 ·exact .inr ⟨ch,rfl,h⟩
theorem tri_to {c:Code} {s t:St} {Q:Exit→St→Prop} (h:Tri (P:=P) X w0 n c t Q) (hs:To X s t):Tri (P:=P) X w0 n c s Q:=fun a w hh=>h a w (hs w0 n a w hh)
theorem tri_cut {Y:Type} {a b:Code} {s:St} {Q:Exit→St→Prop} (J:Y→Prop) (S:Y→St) (sp:List (Spec P X w0)) (g:Gh) (h1:vc X w0 sp n g a s (thenQ (fun s'=>∃y,J y∧To X s' (S y)) Q)) (h2:∀y,J y→Tri (P:=P) X w0 n b (S y) Q):Tri (P:=P) X w0 n (.seq a b) s Q:=by
 refine tri_seq (tri_mono (vc_ok sp g a s _ h1) ?_)
 intro e s' hq
 cases e with
 |normal=>obtain⟨y,hy,hto⟩:=hq;exact tri_to (h2 y hy) hto
 |_=>exact hq
theorem tri_next {a b:Code} {s:St} {Q:Exit→St→Prop} (sp:List (Spec P X w0)) (g:Gh) (h1:vc X w0 sp n g a s (thenQ (fun s'=>Tri (P:=P) X w0 n b s' Q) Q)):Tri (P:=P) X w0 n (.seq a b) s Q:=tri_seq (vc_ok sp g a s _ h1)
end
section
variable {P:Program}
theorem calls_tri {f:FuncId} {fn:Func} {c:Code} (hf:P.funcs[f]?=some fn) (hb:fn.body=some c) (w:World) (fz:Nat→Prop) (args:List SV) (hnm:∀v∈args,v.names=[]) (hfz:∀b,fz b→b<w.heap.size)
  (xs:List Value) (hlen:xs.length=args.length) (hx:∀(j:Nat) (v:SV) (x:Value),args[j]?=some v→xs[j]?=some x→CD (hp w) fz v x) (R:SV→Prop)
  (hn:args.length≤fn.ntmps) (h:Tri (P:=P) (clX fz) w fn.ntmps c ⟨argE 0 args,[]⟩ (retQ P (clX fz) fn.results.toList (fun _ vs=>(resV vs).names=[]∧R (resV vs)))) :
  Calls P f xs.toArray w (DPost w fz R):=by
 refine calls_of_wp hf hb (Code.wp_mono ?_ (h _ w ?_))
 ·rintro e a w' (⟨s,hq,hs⟩|⟨ch,rfl,_,_,I1,l1,f1,H1,_,hpn⟩)
  rotate_left
  ·exact hpn.elim
  have fin:RetP P (clX fz) fn.results.toList (fun _ vs=>(resV vs).names=[]∧R (resV vs)) s→a.defers=[]∧∃v,(results fn a.tmps).run P w'= .ok v w'∧DPost w fz R (Ending.returned v) w':=by
   rintro ⟨cs,s',vs,h1,h2,h3,h4,h5⟩
   refine⟨hs.defers,?_⟩
   obtain⟨_,I,lab,fz',hA⟩:=runCs_ent h1 a w' hs
   obtain⟨x,x1,x2⟩:=results_ok hA h2 h3
   refine⟨x,x1,resV vs,x,fun b=>fz' b∨fz b,rfl,h5,h4,fun b hb=>.inr hb,fun b hb=>?_,fun b hb=>?_,sd_closed (fun b hb=>⟨.inl hb,rfl⟩) h4 x2,hA.m.kept.below (fun _ _ hf=>hf)⟩
   ·rcases hb with hb|hb
    ·rcases hA.m.fzo b hb with h|h|h
     ·exact .inl h
     ·exact .inr h
     ·exact h.elim
    ·exact .inl hb
   ·rcases hb with hb|hb
    ·exact(hA.m.fzl b hb).1
    ·exact Nat.lt_of_lt_of_le (hfz b hb) hA.m.kept.size
  cases e with
  |normal=>exact fin hq
  |ret=>exact fin hq
  |_=>exact hq.elim
 ·have hE0:∀t g v,lkp (argE 0 args) t=some (g,v)→g=true∧args[t]?=some v:=by
   intro t g v ht
   rw[argE_lkp]at ht
   simp only[Nat.zero_le,if_true,Nat.sub_zero,Option.map_eq_some_iff,Prod.mk.injEq]at ht
   obtain⟨u,hu,rfl,rfl⟩:=ht
   exact⟨rfl,hu⟩
  refine⟨?_,nm0,fun _=>none,fz,?_,⟨rfl,fun p hp=>by cases hp⟩,?_,⟨?_,?_,?_,fun b hb=>⟨hfz b hb,rfl⟩,fun b hb=>.inl hb,Kept.refl _ _,by intro p hp;cases hp⟩⟩
  ·intro t g v ht _
   have:=(hE0 t g v ht).2
   rw[hnm v (List.mem_of_getElem? this)]
   intro k hk;cases hk
  ·simp[hlen];omega
  ·intro t g v ht
   obtain⟨rfl,hv⟩:=hE0 t g v ht
   have hlt:t<args.length:=(List.getElem?_eq_some_iff.1 hv).1
   have hlt2:t<xs.length:=by omega
   refine⟨xs[t],?_,?_⟩
   ·rw[Array.getElem?_append_left (by simpa using hlt2)]
    simp[hlt2]
   ·simp only[if_true]
    exact sd_closed (fun b hb=>⟨hb,rfl⟩) (hnm v (List.mem_of_getElem? hv)) (hx t v _ hv (List.getElem?_eq_getElem hlt2))
  ·intro k ch hk;simp[lkp]at hk
  ·intro k ch hk;simp[lkp]at hk
  ·intro b π hb;cases hb
theorem calls_triL {f:FuncId} {fn:Func} {c:Code} (hf:P.funcs[f]?=some fn) (hb:fn.body=some c) (w:World) (fz:Nat→Prop) {A:Type} (ac:ArgC A) (F:A→SV) (a:A) (xs:List Value) (hfz:∀b,fz b→b<w.heap.size) (hl:xs.length=(ac.e a).length)
  (hx:∀(j:Nat) (v:SV) (x:Value),(ac.e a)[j]?=some v→xs[j]?=some x→CD (hp w) fz v x) (hn:(ac.e a).length≤fn.ntmps)
  (h:Tri (P:=P) (clX fz) w fn.ntmps c ⟨argE 0 (ac.e a),[]⟩ (retQ P (clX fz) fn.results.toList (RESL (F a)))):Calls P f xs.toArray w (DPost w fz (fun v=>v=F a)):=
 (calls_tri hf hb w fz (ac.e a) (ac.n a) hfz xs hl hx (fun v=>leV v (F a)) hn h).mono fun _ _ h=>dpost_le h
end
end Go.Sy
